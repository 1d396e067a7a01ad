/- Written by wip/myprint.py of this repo (the kit's print, with additions of this session). -/
import Derived.Test.YtacaeebjanglgaaQFnExactBeginx0
import Derived.Test.YtacaeebjanglgaaQFnExactBeginx1
import Derived.Test.YtacaeebjanglgaaQFnExactBeginx3
import Derived.Test.YtacaeebjanglgaaQFnExactBeginx4
import Derived.Test.YtacaeebjanglgaaQFnExactBeginx8
import Derived.Test.YtacaeebjanglgaaQFnExactBeginx12
import Derived.Test.YtacaeebjanglgaaQFnExactBeginx14
set_option maxRecDepth 100000
namespace Go.Proofs.Ytacaeebjanglgaa.QFnExactBegin
open Go.RowKit Go.Proofs.YtacaeebjanglgaaW.PrintWords Go.Proofs.YtacaeebjanglgaaW.PrintLast Go.Proofs.YtacaeebjanglgaaW.PrintMore
attribute [local go_sem] max2_int min2_int max_two min_two max_three min_three max_four min_four   -- for this text's walks alone
set_option linter.unusedVariables false
set_option linter.unusedSimpArgs false

/-! ### laws_FnExactBegin: function 7 -/
mutual
def laws_FnExactBegin.j0 : Nat → Int → Int → Int → Int → Bool → Int → List (S95) → List (S97) → Int → Int → List (S66) → List (S68) → Int → Int → List (S66) → List (S68) → Int → Int → List (S66) → List (S68) → Int → Option (Bool)
 | 0, _, _, _, _, _, _, _, _, _, _, _, _, _, _, _, _, _, _, _, _, _ => none
 | k + 1, x5, x6, x9, x10, x50, x402000, x402001, x402002, x402003, x422000, x422001, x422002, x422003, x431000, x431001, x431002, x431003, x442000, x442001, x442002, x442003 => if x50 = true then (some false) else ((laws_toStore.f k x402000 x402001 x402002 x402003).bind fun bt443 => ((laws_eqStore.f k x431000 x431001 x431002 x431003 bt443.1 bt443.2.1 bt443.2.2.1 bt443.2.2.2).bind fun t451 => (if t451 = true then ((laws_markStore.f k x431000 x431001 x431002 x431003 1).bind fun bt452 => (if bt452.1 < 0 then (laws_FnExactBegin.j1 k x5 x6 true x402000 x402001 x402002 x402003 x422000 x422001 x422002 x422003 x442000 x442001 x442002 x442003) else ((laws_eqStore.f k x442000 x442001 x442002 x442003 x422000 x422001 x422002 x422003).bind fun t455 => (if t455 = true then (if x9 = x5 then (laws_FnExactBegin.j1 k x5 x6 (x10 != x6) x402000 x402001 x402002 x402003 x422000 x422001 x422002 x422003 x442000 x442001 x442002 x442003) else (laws_FnExactBegin.j1 k x5 x6 true x402000 x402001 x402002 x402003 x422000 x422001 x422002 x422003 x442000 x442001 x442002 x442003)) else (laws_FnExactBegin.j1 k x5 x6 true x402000 x402001 x402002 x402003 x422000 x422001 x422002 x422003 x442000 x442001 x442002 x442003))))) else (some false))))
def laws_FnExactBegin.j1 : Nat → Int → Int → Bool → Int → List (S95) → List (S97) → Int → Int → List (S66) → List (S68) → Int → Int → List (S66) → List (S68) → Int → Option (Bool)
 | 0, _, _, _, _, _, _, _, _, _, _, _, _, _, _, _ => none
 | k + 1, x5, x6, x76, x402000, x402001, x402002, x402003, x422000, x422001, x422002, x422003, x442000, x442001, x442002, x442003 => if x76 = true then (some false) else ((laws_markStore.f k x442000 x442001 x442002 x442003 1).bind fun bt456 => ((laws_heldStore.f k x442000 bt456.2.1 bt456.2.2 x442003 1).bind fun t459 => (if t459 < 0 then (some false) else (if t459 = bt456.1 then ((laws_toStore.f k x402000 x402001 x402002 x402003).bind fun bt460 => ((impl_Begin.f k bt460.1 bt460.2.1 bt460.2.2.1 bt460.2.2.2).bind fun bt468 => ((laws_eqStore.f k bt468.1 bt468.2.1 bt468.2.2.1 bt468.2.2.2.1 x422000 x422001 x422002 x422003).bind fun t479 => (if t479 = true then (if bt468.2.2.2.2.1 = x5 then (laws_FnExactBegin.j2 k bt456.1 (bt468.2.2.2.2.2 != x6) x442000 bt456.2.1 bt456.2.2 x442003) else (laws_FnExactBegin.j2 k bt456.1 true x442000 bt456.2.1 bt456.2.2 x442003)) else (laws_FnExactBegin.j2 k bt456.1 true x442000 bt456.2.1 bt456.2.2 x442003))))) else (some false)))))
def laws_FnExactBegin.j2 : Nat → Int → Bool → Int → List (S66) → List (S68) → Int → Option (Bool)
 | 0, _, _, _, _, _, _ => none
 | k + 1, x12, x108, x442000, x442001, x442002, x442003 => if x108 = true then (some false) else ((laws_heldStore.f k x442000 x442001 x442002 x442003 1).bind fun t480 => (if t480 < 0 then (some false) else (if t480 = x12 then (some true) else (some false))))
end
def laws_FnExactBegin.f (k : Nat) (a0_0 : Int) (l0_1 : List (S95)) (l0_2 : List (S97)) (a0_3 : Int) : Option (Bool) := (laws_szStore.f k a0_0 l0_1 l0_2 a0_3 1048576).bind fun t402 => (if t402 < 0 then (some true) else ((laws_toStore.f k a0_0 l0_1 l0_2 a0_3).bind fun bt403 => ((spec_Begin.f k bt403.1 bt403.2.1 bt403.2.2.1 bt403.2.2.2).bind fun bt411 => ((laws_toStore.f k a0_0 l0_1 l0_2 a0_3).bind fun bt422 => ((impl_Begin.f k bt422.1 bt422.2.1 bt422.2.2.1 bt422.2.2.2).bind fun bt431 => ((laws_eqStore.f k bt431.1 bt431.2.1 bt431.2.2.1 bt431.2.2.2.1 bt411.1 bt411.2.1 bt411.2.2.1 bt411.2.2.2.1).bind fun t442 => (if t442 = true then (if bt431.2.2.2.2.1 = bt411.2.2.2.2.1 then (laws_FnExactBegin.j0 k bt411.2.2.2.2.1 bt411.2.2.2.2.2 bt431.2.2.2.2.1 bt431.2.2.2.2.2 (bt431.2.2.2.2.2 != bt411.2.2.2.2.2) a0_0 l0_1 l0_2 a0_3 bt411.1 bt411.2.1 bt411.2.2.1 bt411.2.2.2.1 bt422.1 bt422.2.1 bt422.2.2.1 bt422.2.2.2 bt431.1 bt431.2.1 bt431.2.2.1 bt431.2.2.2.1) else (laws_FnExactBegin.j0 k bt411.2.2.2.2.1 bt411.2.2.2.2.2 bt431.2.2.2.2.1 bt431.2.2.2.2.2 true a0_0 l0_1 l0_2 a0_3 bt411.1 bt411.2.1 bt411.2.2.1 bt411.2.2.2.1 bt422.1 bt422.2.1 bt422.2.2.1 bt422.2.2.2 bt431.1 bt431.2.1 bt431.2.2.1 bt431.2.2.2.1)) else (laws_FnExactBegin.j0 k bt411.2.2.2.2.1 bt411.2.2.2.2.2 bt431.2.2.2.2.1 bt431.2.2.2.2.2 true a0_0 l0_1 l0_2 a0_3 bt411.1 bt411.2.1 bt411.2.2.1 bt411.2.2.2.1 bt422.1 bt422.2.1 bt422.2.2.1 bt422.2.2.2 bt431.1 bt431.2.1 bt431.2.2.1 bt431.2.2.2.1))))))))
theorem laws_FnExactBegin.mono_l : ∀ k, (∀ y0 y1 y2 y3 y4 y5 y6 y7 y8 y9 y10 y11 y12 y13 y14 y15 y16 y17 y18 y19 y20, LeO (laws_FnExactBegin.j0 k y0 y1 y2 y3 y4 y5 y6 y7 y8 y9 y10 y11 y12 y13 y14 y15 y16 y17 y18 y19 y20) (laws_FnExactBegin.j0 (k + 1) y0 y1 y2 y3 y4 y5 y6 y7 y8 y9 y10 y11 y12 y13 y14 y15 y16 y17 y18 y19 y20)) ∧ (∀ y0 y1 y2 y3 y4 y5 y6 y7 y8 y9 y10 y11 y12 y13 y14, LeO (laws_FnExactBegin.j1 k y0 y1 y2 y3 y4 y5 y6 y7 y8 y9 y10 y11 y12 y13 y14) (laws_FnExactBegin.j1 (k + 1) y0 y1 y2 y3 y4 y5 y6 y7 y8 y9 y10 y11 y12 y13 y14)) ∧ (∀ y0 y1 y2 y3 y4 y5, LeO (laws_FnExactBegin.j2 k y0 y1 y2 y3 y4 y5) (laws_FnExactBegin.j2 (k + 1) y0 y1 y2 y3 y4 y5))
 | 0 => ⟨fun _ _ _ _ _ _ _ _ _ _ _ _ _ _ _ _ _ _ _ _ _ r h => by simp [laws_FnExactBegin.j0] at h, fun _ _ _ _ _ _ _ _ _ _ _ _ _ _ _ r h => by simp [laws_FnExactBegin.j1] at h, fun _ _ _ _ _ _ r h => by simp [laws_FnExactBegin.j2] at h⟩
 | k + 1 => by
  obtain ⟨ih0, ih1, ih2⟩ := laws_FnExactBegin.mono_l k
  refine ⟨?_, ?_, ?_⟩
  ·
   intro y0 y1 y2 y3 y4 y5 y6 y7 y8 y9 y10 y11 y12 y13 y14 y15 y16 y17 y18 y19 y20
   unfold laws_FnExactBegin.j0
   repeat' first
   | (with_reducible exact ih0 _ _ _ _ _ _ _ _ _ _ _ _ _ _ _ _ _ _ _ _ _)
   | (with_reducible exact ih1 _ _ _ _ _ _ _ _ _ _ _ _ _ _ _)
   | (with_reducible exact ih2 _ _ _ _ _ _)
   | (with_reducible exact impl_Begin.mono _ _ _ _ _)
   | (with_reducible exact laws_eqStore.mono _ _ _ _ _ _ _ _ _)
   | (with_reducible exact laws_heldStore.mono _ _ _ _ _ _)
   | (with_reducible exact laws_markStore.mono _ _ _ _ _ _)
   | (with_reducible exact laws_szStore.mono _ _ _ _ _ _)
   | (with_reducible exact laws_toStore.mono _ _ _ _ _)
   | (with_reducible exact spec_Begin.mono _ _ _ _ _)
   | (with_reducible exact LeO.refl _)
   | (with_reducible exact LeO.none _)
   | (with_reducible refine LeO.ite ?_ ?_)
   | (with_reducible refine LeO.bind ?_ (fun _ => ?_))
   | exact LeO.none _
   | refine LeO.ite ?_ ?_
   | refine LeO.bind ?_ (fun _ => ?_)
  ·
   intro y0 y1 y2 y3 y4 y5 y6 y7 y8 y9 y10 y11 y12 y13 y14
   unfold laws_FnExactBegin.j1
   repeat' first
   | (with_reducible exact ih0 _ _ _ _ _ _ _ _ _ _ _ _ _ _ _ _ _ _ _ _ _)
   | (with_reducible exact ih1 _ _ _ _ _ _ _ _ _ _ _ _ _ _ _)
   | (with_reducible exact ih2 _ _ _ _ _ _)
   | (with_reducible exact impl_Begin.mono _ _ _ _ _)
   | (with_reducible exact laws_eqStore.mono _ _ _ _ _ _ _ _ _)
   | (with_reducible exact laws_heldStore.mono _ _ _ _ _ _)
   | (with_reducible exact laws_markStore.mono _ _ _ _ _ _)
   | (with_reducible exact laws_szStore.mono _ _ _ _ _ _)
   | (with_reducible exact laws_toStore.mono _ _ _ _ _)
   | (with_reducible exact spec_Begin.mono _ _ _ _ _)
   | (with_reducible exact LeO.refl _)
   | (with_reducible exact LeO.none _)
   | (with_reducible refine LeO.ite ?_ ?_)
   | (with_reducible refine LeO.bind ?_ (fun _ => ?_))
   | exact LeO.none _
   | refine LeO.ite ?_ ?_
   | refine LeO.bind ?_ (fun _ => ?_)
  intro y0 y1 y2 y3 y4 y5
  unfold laws_FnExactBegin.j2
  repeat' first
  | (with_reducible exact ih0 _ _ _ _ _ _ _ _ _ _ _ _ _ _ _ _ _ _ _ _ _)
  | (with_reducible exact ih1 _ _ _ _ _ _ _ _ _ _ _ _ _ _ _)
  | (with_reducible exact ih2 _ _ _ _ _ _)
  | (with_reducible exact impl_Begin.mono _ _ _ _ _)
  | (with_reducible exact laws_eqStore.mono _ _ _ _ _ _ _ _ _)
  | (with_reducible exact laws_heldStore.mono _ _ _ _ _ _)
  | (with_reducible exact laws_markStore.mono _ _ _ _ _ _)
  | (with_reducible exact laws_szStore.mono _ _ _ _ _ _)
  | (with_reducible exact laws_toStore.mono _ _ _ _ _)
  | (with_reducible exact spec_Begin.mono _ _ _ _ _)
  | (with_reducible exact LeO.refl _)
  | (with_reducible exact LeO.none _)
  | (with_reducible refine LeO.ite ?_ ?_)
  | (with_reducible refine LeO.bind ?_ (fun _ => ?_))
  | exact LeO.none _
  | refine LeO.ite ?_ ?_
  | refine LeO.bind ?_ (fun _ => ?_)
theorem laws_FnExactBegin.mono : ∀ a0 a1 a2 a3 k, LeO (laws_FnExactBegin.f k a0 a1 a2 a3) (laws_FnExactBegin.f (k + 1) a0 a1 a2 a3) := by
 intro a0 a1 a2 a3 k
 obtain ⟨ih0, ih1, ih2⟩ := laws_FnExactBegin.mono_l k
 unfold laws_FnExactBegin.f
 repeat' first
   | (with_reducible exact ih0 _ _ _ _ _ _ _ _ _ _ _ _ _ _ _ _ _ _ _ _ _)
   | (with_reducible exact ih1 _ _ _ _ _ _ _ _ _ _ _ _ _ _ _)
   | (with_reducible exact ih2 _ _ _ _ _ _)
   | (with_reducible exact impl_Begin.mono _ _ _ _ _)
   | (with_reducible exact laws_eqStore.mono _ _ _ _ _ _ _ _ _)
   | (with_reducible exact laws_heldStore.mono _ _ _ _ _ _)
   | (with_reducible exact laws_markStore.mono _ _ _ _ _ _)
   | (with_reducible exact laws_szStore.mono _ _ _ _ _ _)
   | (with_reducible exact laws_toStore.mono _ _ _ _ _)
   | (with_reducible exact spec_Begin.mono _ _ _ _ _)
   | (with_reducible exact LeO.refl _)
   | (with_reducible exact LeO.none _)
   | (with_reducible refine LeO.ite ?_ ?_)
   | (with_reducible refine LeO.bind ?_ (fun _ => ?_))
   | exact LeO.none _
   | refine LeO.ite ?_ ?_
   | refine LeO.bind ?_ (fun _ => ?_)
set_option maxHeartbeats 8000000 in
set_option maxRecDepth 100000 in
theorem laws_FnExactBegin.calls (k : Nat) (a0_0 : Int) (A0_1 : Option Addr) (c0_1 : Nat) (l0_1 : List (S95)) (A0_2 : Option Addr) (c0_2 : Nat) (l0_2 : List (S97)) (a0_3 : Int) (r : Bool) (w : World) (hr0_1 : Kd.C k95 w A0_1 l0_1.length l0_1) (hc0_1 : l0_1.length ≤ c0_1) (hr0_2 : Kd.C k97 w A0_2 l0_2.length l0_2) (hc0_2 : l0_2.length ≤ c0_2) (h : laws_FnExactBegin.f k a0_0 l0_1 l0_2 a0_3 = some r) :
  Calls Try.prog 7 #[.agg #[.int .i64 a0_0, .slice A0_1 l0_1.length c0_1, .slice A0_2 l0_2.length c0_2, .int .i64 a0_3]] w fun e w' => e = .returned (.bool r) ∧ Below w.heap.size w w' := by
 have hu25 := Try.underlying25
 have hu31 := Try.underlying31
 have HR0_1 := Aside0.mk hr0_1
 have HC0_1 := Aside0.mk hc0_1
 clear hr0_1 hc0_1
 have HR0_2 := Aside0.mk hr0_2
 have HC0_2 := Aside0.mk hc0_2
 clear hr0_2 hc0_2
 have HB := Aside0.mk (Below.refl w.heap.size w)
 have H : ((laws_szStore.f k a0_0 l0_1 l0_2 a0_3 1048576).bind fun t402 => (if t402 < 0 then (some true) else ((laws_toStore.f k a0_0 l0_1 l0_2 a0_3).bind fun bt403 => ((spec_Begin.f k bt403.1 bt403.2.1 bt403.2.2.1 bt403.2.2.2).bind fun bt411 => ((laws_toStore.f k a0_0 l0_1 l0_2 a0_3).bind fun bt422 => ((impl_Begin.f k bt422.1 bt422.2.1 bt422.2.2.1 bt422.2.2.2).bind fun bt431 => ((laws_eqStore.f k bt431.1 bt431.2.1 bt431.2.2.1 bt431.2.2.2.1 bt411.1 bt411.2.1 bt411.2.2.1 bt411.2.2.2.1).bind fun t442 => (if t442 = true then (if bt431.2.2.2.2.1 = bt411.2.2.2.2.1 then (laws_FnExactBegin.j0 k bt411.2.2.2.2.1 bt411.2.2.2.2.2 bt431.2.2.2.2.1 bt431.2.2.2.2.2 (bt431.2.2.2.2.2 != bt411.2.2.2.2.2) a0_0 l0_1 l0_2 a0_3 bt411.1 bt411.2.1 bt411.2.2.1 bt411.2.2.2.1 bt422.1 bt422.2.1 bt422.2.2.1 bt422.2.2.2 bt431.1 bt431.2.1 bt431.2.2.1 bt431.2.2.2.1) else (laws_FnExactBegin.j0 k bt411.2.2.2.2.1 bt411.2.2.2.2.2 bt431.2.2.2.2.1 bt431.2.2.2.2.2 true a0_0 l0_1 l0_2 a0_3 bt411.1 bt411.2.1 bt411.2.2.1 bt411.2.2.2.1 bt422.1 bt422.2.1 bt422.2.2.1 bt422.2.2.2 bt431.1 bt431.2.1 bt431.2.2.1 bt431.2.2.2.1)) else (laws_FnExactBegin.j0 k bt411.2.2.2.2.1 bt411.2.2.2.2.2 bt431.2.2.2.2.1 bt431.2.2.2.2.2 true a0_0 l0_1 l0_2 a0_3 bt411.1 bt411.2.1 bt411.2.2.1 bt411.2.2.2.1 bt422.1 bt422.2.1 bt422.2.2.1 bt422.2.2.2 bt431.1 bt431.2.1 bt431.2.2.1 bt431.2.2.2.1))))))))) = some r := h
 clear h
 replace H := Option.bind_eq_some_iff.mp H
 obtain ⟨t402, A20, H⟩ := H
 try dsimp only at H
 have A2 := Aside0.mk A20
 clear A20
 by_cases c3 : t402 < 0
 ·
  rw [if_pos c3] at H
  have c3b0 := decide_eq_true c3
  clear c3
  obtain rfl := Option.some.inj H
  go_enter Try.func7, Try.ntmps7
  go_wp2_with (first | ((with_reducible refine gate_dst (N := 1) rfl ?_); refine box_event ?hg (N := 1) ?hd (cs := #[.int .i64 a0_0, .slice A0_1 l0_1.length c0_1, .slice A0_2 l0_2.length c0_2, .int .i64 a0_3]) (t := 25) ?hr ?_; (case hd => rfl); (case hg => rfl); (case hr => exact zq2); intro gb401 hg w4 hbox hb; have BK401 := Aside0.mk hbox; have GW401 := Aside0.mk (zq260 : w.heap.size ≤ gb401); have GE401 := Aside0.mk (zq260 : w.heap.size ≤ gb401); replace HB := sB zq3 hb; clear hb hbox hg; obtain ⟨hcz5_0, hcz5_1, hcz5_2, hcz5_3, hfz5_0, hfz5_1, hfz5_2, hfz5_3⟩ := c4 (w := w4) BK401) | ((with_reducible refine gC 15 rfl ?_); refine gL 19 Try.func15 #[.agg #[.int .i64 a0_0, .slice A0_1 l0_1.length c0_1, .slice A0_2 l0_2.length c0_2, .int .i64 a0_3], .int .i64 1048576] ?_; (with_reducible refine (laws_szStore.calls k a0_0 _ _ l0_1 _ _ l0_2 a0_3 1048576 t402 _ ?_ ?_ ?_ ?_ A2.out).mono ?_); exact zq11; exact zq12; exact zq15; exact zq16; rintro e w6 ⟨rfl, hb⟩; refine ⟨_, rfl, ?_⟩; replace BK401 := bF BK401 zq74 hb; replace HB := sB zq75 hb; clear hb))
  go_ret
  exact ⟨zq4, zq75⟩
 rw [if_neg c3] at H
 have c3b0 := decide_eq_false c3
 clear c3
 replace H := Option.bind_eq_some_iff.mp H
 obtain ⟨⟨t403, t404, t407, t410⟩, A70, H⟩ := H
 try dsimp only at H
 have A7 := Aside0.mk A70
 clear A70
 replace H := Option.bind_eq_some_iff.mp H
 obtain ⟨⟨t411, t412, t415, t418, t419, t420⟩, A80, H⟩ := H
 try dsimp only at H
 have A8 := Aside0.mk A80
 clear A80
 replace H := Option.bind_eq_some_iff.mp H
 obtain ⟨⟨t422, t423, t426, t429⟩, A90, H⟩ := H
 try dsimp only at H
 have A9 := Aside0.mk A90
 clear A90
 replace H := Option.bind_eq_some_iff.mp H
 obtain ⟨⟨t431, t432, t435, t438, t439, t440⟩, A100, H⟩ := H
 try dsimp only at H
 have A10 := Aside0.mk A100
 clear A100
 have HC11 := Aside0.mk H
 clear H
 go_enter Try.func7, Try.ntmps7
 go_upto_region 8 with (first | ((with_reducible refine gate_dst (N := 1) rfl ?_); refine box_event ?hg (N := 1) ?hd (cs := #[.int .i64 a0_0, .slice A0_1 l0_1.length c0_1, .slice A0_2 l0_2.length c0_2, .int .i64 a0_3]) (t := 25) ?hr ?_; (case hd => rfl); (case hg => rfl); (case hr => exact zq2); intro gb401 hg w12 hbox hb; have BK401 := Aside0.mk hbox; have GW401 := Aside0.mk (zq260 : w.heap.size ≤ gb401); have GE401 := Aside0.mk (zq260 : w.heap.size ≤ gb401); replace HB := sB zq3 hb; clear hb hbox hg; obtain ⟨hcz13_0, hcz13_1, hcz13_2, hcz13_3, hfz13_0, hfz13_1, hfz13_2, hfz13_3⟩ := c4 (w := w12) BK401) | ((with_reducible refine gC 15 rfl ?_); refine gL 19 Try.func15 #[.agg #[.int .i64 a0_0, .slice A0_1 l0_1.length c0_1, .slice A0_2 l0_2.length c0_2, .int .i64 a0_3], .int .i64 1048576] ?_; (with_reducible refine (laws_szStore.calls k a0_0 _ _ l0_1 _ _ l0_2 a0_3 1048576 t402 _ ?_ ?_ ?_ ?_ A2.out).mono ?_); exact zq11; exact zq12; exact zq15; exact zq16; rintro e w14 ⟨rfl, hb⟩; refine ⟨_, rfl, ?_⟩; replace BK401 := bF BK401 zq74 hb; replace HB := sB zq75 hb; clear hb; obtain ⟨hcz15_0, hcz15_1, hcz15_2, hcz15_3, hfz15_0, hfz15_1, hfz15_2, hfz15_3⟩ := c4 (w := w14) BK401) | ((with_reducible refine gC 17 rfl ?_); refine gL 24 Try.func17 #[.agg #[.int .i64 a0_0, .slice A0_1 l0_1.length c0_1, .slice A0_2 l0_2.length c0_2, .int .i64 a0_3]] ?_; (with_reducible refine (laws_toStore.calls k a0_0 _ _ l0_1 _ _ l0_2 a0_3 t403 t404 t407 t410 _ ?_ ?_ ?_ ?_ A7.out).mono ?_); exact zq11; exact zq12; exact zq15; exact zq16; rintro e w16 ⟨v405, v408, rfl, ho0, ho1, hb⟩; refine ⟨_, rfl, ?_⟩; have HO406 := Aside0.mk (Kd.R_lower ho0 (below_size zq75)); have HO409 := Aside0.mk (Kd.R_lower ho1 (below_size zq75)); replace BK401 := bF BK401 zq74 hb; replace HB := sB zq75 hb; clear hb; (try clear ho0); (try clear ho1); obtain ⟨Ao17, co17, eo17⟩ := Kd.R_slice HO406.out; subst eo17; obtain ⟨Ao18, co18, eo18⟩ := Kd.R_slice HO409.out; subst eo18) | ((with_reducible refine gC 30 rfl ?_); refine gL 25 Try.func30 #[.agg #[.int .i64 t403, .slice Ao17 t404.length co17, .slice Ao18 t407.length co18, .int .i64 t410]] ?_; (with_reducible refine (spec_Begin.calls k t403 _ _ t404 _ _ t407 t410 t411 t412 t415 t418 t419 t420 _ ?side1 ?_ ?side3 ?_ A8.out).mono ?_); (case side1 => repeat (first | exact (Kd.R_reads' HO406.out).2.2 | (with_reducible refine Kd.C_alloc ?_ _) | (with_reducible refine Kd.C_drewN ?_ _) | (with_reducible refine Kd.C_drew ?_))); exact (Kd.R_reads' HO406.out).2.1; (case side3 => repeat (first | exact (Kd.R_reads' HO409.out).2.2 | (with_reducible refine Kd.C_alloc ?_ _) | (with_reducible refine Kd.C_drewN ?_ _) | (with_reducible refine Kd.C_drew ?_))); exact (Kd.R_reads' HO409.out).2.1; rintro e w19 ⟨v413, v416, rfl, ho0, ho1, hb⟩; refine ⟨_, rfl, ?_⟩; have HO414 := Aside0.mk (Kd.R_lower (Kd.R_new' ho0 (Kd.R_lt zq76)) (below_size zq75)); replace HO406 := Aside0.mk (Kd.R_elder' zq76 (Kd.R_base ho0) hb); have HO417 := Aside0.mk (Kd.R_lower (Kd.R_new' ho1 (Kd.R_lt zq77)) (below_size zq75)); replace HO409 := Aside0.mk (Kd.R_elder' zq77 (Kd.R_base ho1) hb); replace BK401 := bF BK401 zq74 hb; replace HB := sB zq75 hb; clear hb; (try clear ho0); (try clear ho1)) | ((with_reducible refine gate_dst (N := 4) rfl ?_); refine box_event ?hg (N := 4) ?hd (cs := #[.int .i64 0, .slice none 0 0, .slice none 0 0, .int .i64 0]) (t := 31) ?hr ?_; (case hd => rfl); (case hg => rfl); (case hr => exact zq2); intro gb421 hg w20 hbox hb; replace HO406 := rB zq76 hb; replace HO409 := rB zq77 hb; replace HO414 := rB zq78 hb; replace HO417 := rB zq79 hb; have BK421 := Aside0.mk hbox; have GW421 := Aside0.mk (by rw [hg]; exact (below_size zq75) : w.heap.size ≤ gb421); have GE421 := Aside0.mk (by rw [hg]; exact (below_size zq75) : w.heap.size ≤ gb421); replace HB := sB zq75 hb; have NB401_421 := Aside0.mk (zq285 : gb401 ≠ gb421); have NB421_401 := Aside0.mk (zq286 : gb421 ≠ gb401); replace BK401 := bF BK401 zq74 hb; clear hb hbox hg; have hnb21 := NB421_401.out; have hnc21 := NB401_421.out; obtain ⟨hcz22_0, hcz22_1, hcz22_2, hcz22_3, hfz22_0, hfz22_1, hfz22_2, hfz22_3⟩ := c4 (w := w20) BK421; obtain ⟨Ao23, co23, eo23⟩ := Kd.R_slice HO414.out; subst eo23; obtain ⟨Ao24, co24, eo24⟩ := Kd.R_slice HO417.out; subst eo24; obtain ⟨hcz25_0, hcz25_1, hcz25_2, hcz25_3, hfz25_0, hfz25_1, hfz25_2, hfz25_3⟩ := c4 (w := w20) BK401) | ((with_reducible refine gC 17 rfl ?_); refine gL 30 Try.func17 #[.agg #[.int .i64 a0_0, .slice A0_1 l0_1.length c0_1, .slice A0_2 l0_2.length c0_2, .int .i64 a0_3]] ?_; (with_reducible refine (laws_toStore.calls k a0_0 _ _ l0_1 _ _ l0_2 a0_3 t422 t423 t426 t429 _ ?_ ?_ ?_ ?_ A9.out).mono ?_); exact Kd.C_below HR0_1.out zq80; exact zq12; exact Kd.C_below HR0_2.out zq80; exact zq16; rintro e w26 ⟨v424, v427, rfl, ho0, ho1, hb⟩; refine ⟨_, rfl, ?_⟩; have HO425 := Aside0.mk (Kd.R_lower (Kd.R_new' (Kd.R_new' ho0 (Kd.R_lt zq81)) (Kd.R_lt zq83)) (below_size zq80)); replace HO406 := Aside0.mk (Kd.R_elder' zq81 (Kd.R_base ho0) hb); replace HO414 := Aside0.mk (Kd.R_elder' zq83 (Kd.R_base ho0) hb); have HO428 := Aside0.mk (Kd.R_lower (Kd.R_new' (Kd.R_new' ho1 (Kd.R_lt zq82)) (Kd.R_lt zq84)) (below_size zq80)); replace HO409 := Aside0.mk (Kd.R_elder' zq82 (Kd.R_base ho1) hb); replace HO417 := Aside0.mk (Kd.R_elder' zq84 (Kd.R_base ho1) hb); replace BK401 := bF BK401 (by (with_reducible repeat (first | refine blk_drewN ?_ _ | refine blk_drew ?_ | refine blk_alloc ?_ _)); refine blk_far ?_ NB401_421.out _; (with_reducible repeat (first | refine blk_drewN ?_ _ | refine blk_drew ?_ | refine blk_alloc ?_ _)); refine blk_far ?_ NB401_421.out _; (with_reducible repeat (first | refine blk_drewN ?_ _ | refine blk_drew ?_ | refine blk_alloc ?_ _)); refine blk_far ?_ NB401_421.out _; (with_reducible repeat (first | refine blk_drewN ?_ _ | refine blk_drew ?_ | refine blk_alloc ?_ _)); refine blk_far ?_ NB401_421.out _; (with_reducible repeat (first | refine blk_drewN ?_ _ | refine blk_drew ?_ | refine blk_alloc ?_ _)); exact BK401.out) hb; replace BK421 := bB (g := gb421) (o := .cells #[.int .i64 t411, .slice Ao23 t412.length co23, .slice Ao24 t415.length co24, .int .i64 t418] 31 (0, 0)) (by (with_reducible repeat (first | refine blk_drewN ?_ _ | refine blk_drew ?_ | refine blk_alloc ?_ _)); refine blk_put (cs := #[.int .i64 t411, .slice Ao23 t412.length co23, .slice Ao24 t415.length co24, .int .i64 0]) ?_ 3 _ rfl; (with_reducible repeat (first | refine blk_drewN ?_ _ | refine blk_drew ?_ | refine blk_alloc ?_ _)); refine blk_put (cs := #[.int .i64 t411, .slice Ao23 t412.length co23, .slice none 0 0, .int .i64 0]) ?_ 2 _ rfl; (with_reducible repeat (first | refine blk_drewN ?_ _ | refine blk_drew ?_ | refine blk_alloc ?_ _)); refine blk_put (cs := #[.int .i64 t411, .slice none 0 0, .slice none 0 0, .int .i64 0]) ?_ 1 _ rfl; (with_reducible repeat (first | refine blk_drewN ?_ _ | refine blk_drew ?_ | refine blk_alloc ?_ _)); refine blk_put (cs := #[.int .i64 0, .slice none 0 0, .slice none 0 0, .int .i64 0]) ?_ 0 _ rfl; (with_reducible repeat (first | refine blk_drewN ?_ _ | refine blk_drew ?_ | refine blk_alloc ?_ _)); exact BK421.out) hb; replace HB := sB zq80 hb; clear hb; (try clear ho0); (try clear ho1)) | ((with_reducible refine gate_dst (N := 7) rfl ?_); refine box_event ?hg (N := 7) ?hd (cs := #[.int .i64 0, .slice none 0 0, .slice none 0 0, .int .i64 0]) (t := 31) ?hr ?_; (case hd => rfl); (case hg => rfl); (case hr => exact zq2); intro gb430 hg w27 hbox hb; replace HO406 := rB zq76 hb; replace HO409 := rB zq77 hb; replace HO414 := rB zq78 hb; replace HO417 := rB zq79 hb; replace HO425 := rB zq85 hb; replace HO428 := rB zq86 hb; have BK430 := Aside0.mk hbox; have GW430 := Aside0.mk (by rw [hg]; exact (below_size zq80) : w.heap.size ≤ gb430); have GE430 := Aside0.mk (by rw [hg]; exact (below_size zq80) : w.heap.size ≤ gb430); replace HB := sB zq80 hb; have NB401_430 := Aside0.mk (zq285 : gb401 ≠ gb430); have NB430_401 := Aside0.mk (zq286 : gb430 ≠ gb401); replace BK401 := bF BK401 zq74 hb; have NB421_430 := Aside0.mk (zq287 : gb421 ≠ gb430); have NB430_421 := Aside0.mk (zq288 : gb430 ≠ gb421); replace BK421 := bF BK421 zq87 hb; clear hb hbox hg; have hnb28 := NB430_401.out; have hnc28 := NB401_430.out; have hnb29 := NB430_421.out; have hnc29 := NB421_430.out; obtain ⟨hcz30_0, hcz30_1, hcz30_2, hcz30_3, hfz30_0, hfz30_1, hfz30_2, hfz30_3⟩ := c4 (w := w27) BK430; obtain ⟨Ao31, co31, eo31⟩ := Kd.R_slice HO425.out; subst eo31; obtain ⟨Ao32, co32, eo32⟩ := Kd.R_slice HO428.out; subst eo32) | ((with_reducible refine gC 31 rfl ?_); refine gL 33 Try.func31 #[.agg #[.int .i64 t422, .slice Ao31 t423.length co31, .slice Ao32 t426.length co32, .int .i64 t429]] ?_; (with_reducible refine (impl_Begin.calls k t422 _ _ t423 _ _ t426 t429 t431 t432 t435 t438 t439 t440 _ ?side1 ?_ ?side3 ?_ A10.out).mono ?_); (case side1 => refine (Kd.R_reads' (e := 66) (base := w.heap.size) (ok := fun k_ => ((True ∧ some k_ ≠ (.slice Ao17 t404.length co17 : Value).ownBlock) ∧ some k_ ≠ (.slice Ao23 t412.length co23 : Value).ownBlock)) (n := t423.length) (c := co31) ?_).2.2; exact zq88); exact (Kd.R_reads' HO425.out).2.1; (case side3 => refine (Kd.R_reads' (e := 68) (base := w.heap.size) (ok := fun k_ => ((True ∧ some k_ ≠ (.slice Ao18 t407.length co18 : Value).ownBlock) ∧ some k_ ≠ (.slice Ao24 t415.length co24 : Value).ownBlock)) (n := t426.length) (c := co32) ?_).2.2; exact zq89); exact (Kd.R_reads' HO428.out).2.1; rintro e w33 ⟨v433, v436, rfl, ho0, ho1, hb⟩; refine ⟨_, rfl, ?_⟩; have HO434 := Aside0.mk (Kd.R_lower (Kd.R_new' (Kd.R_new' (Kd.R_new' ho0 (Kd.R_lt zq90)) (Kd.R_lt zq92)) (Kd.R_lt zq88)) (below_size zq94)); replace HO406 := Aside0.mk (Kd.R_elder' zq90 (Kd.R_base ho0) hb); replace HO414 := Aside0.mk (Kd.R_elder' zq92 (Kd.R_base ho0) hb); replace HO425 := Aside0.mk (Kd.R_elder' zq88 (Kd.R_base ho0) hb); have HO437 := Aside0.mk (Kd.R_lower (Kd.R_new' (Kd.R_new' (Kd.R_new' ho1 (Kd.R_lt zq91)) (Kd.R_lt zq93)) (Kd.R_lt zq89)) (below_size zq94)); replace HO409 := Aside0.mk (Kd.R_elder' zq91 (Kd.R_base ho1) hb); replace HO417 := Aside0.mk (Kd.R_elder' zq93 (Kd.R_base ho1) hb); replace HO428 := Aside0.mk (Kd.R_elder' zq89 (Kd.R_base ho1) hb); replace BK401 := bF BK401 (by (with_reducible repeat (first | refine blk_drewN ?_ _ | refine blk_drew ?_ | refine blk_alloc ?_ _)); refine blk_far ?_ NB401_430.out _; (with_reducible repeat (first | refine blk_drewN ?_ _ | refine blk_drew ?_ | refine blk_alloc ?_ _)); refine blk_far ?_ NB401_430.out _; (with_reducible repeat (first | refine blk_drewN ?_ _ | refine blk_drew ?_ | refine blk_alloc ?_ _)); refine blk_far ?_ NB401_430.out _; (with_reducible repeat (first | refine blk_drewN ?_ _ | refine blk_drew ?_ | refine blk_alloc ?_ _)); refine blk_far ?_ NB401_430.out _; (with_reducible repeat (first | refine blk_drewN ?_ _ | refine blk_drew ?_ | refine blk_alloc ?_ _)); exact BK401.out) hb; replace BK421 := bF BK421 (by (with_reducible repeat (first | refine blk_drewN ?_ _ | refine blk_drew ?_ | refine blk_alloc ?_ _)); refine blk_far ?_ NB421_430.out _; (with_reducible repeat (first | refine blk_drewN ?_ _ | refine blk_drew ?_ | refine blk_alloc ?_ _)); refine blk_far ?_ NB421_430.out _; (with_reducible repeat (first | refine blk_drewN ?_ _ | refine blk_drew ?_ | refine blk_alloc ?_ _)); refine blk_far ?_ NB421_430.out _; (with_reducible repeat (first | refine blk_drewN ?_ _ | refine blk_drew ?_ | refine blk_alloc ?_ _)); refine blk_far ?_ NB421_430.out _; (with_reducible repeat (first | refine blk_drewN ?_ _ | refine blk_drew ?_ | refine blk_alloc ?_ _)); exact BK421.out) hb; replace BK430 := bB (g := gb430) (o := .cells #[.int .i64 t422, .slice Ao31 t423.length co31, .slice Ao32 t426.length co32, .int .i64 t429] 31 (0, 0)) (by (with_reducible repeat (first | refine blk_drewN ?_ _ | refine blk_drew ?_ | refine blk_alloc ?_ _)); refine blk_put (cs := #[.int .i64 t422, .slice Ao31 t423.length co31, .slice Ao32 t426.length co32, .int .i64 0]) ?_ 3 _ rfl; (with_reducible repeat (first | refine blk_drewN ?_ _ | refine blk_drew ?_ | refine blk_alloc ?_ _)); refine blk_put (cs := #[.int .i64 t422, .slice Ao31 t423.length co31, .slice none 0 0, .int .i64 0]) ?_ 2 _ rfl; (with_reducible repeat (first | refine blk_drewN ?_ _ | refine blk_drew ?_ | refine blk_alloc ?_ _)); refine blk_put (cs := #[.int .i64 t422, .slice none 0 0, .slice none 0 0, .int .i64 0]) ?_ 1 _ rfl; (with_reducible repeat (first | refine blk_drewN ?_ _ | refine blk_drew ?_ | refine blk_alloc ?_ _)); refine blk_put (cs := #[.int .i64 0, .slice none 0 0, .slice none 0 0, .int .i64 0]) ?_ 0 _ rfl; (with_reducible repeat (first | refine blk_drewN ?_ _ | refine blk_drew ?_ | refine blk_alloc ?_ _)); exact BK430.out) hb; replace HB := sB zq94 hb; clear hb; (try clear ho0); (try clear ho1)) | ((with_reducible refine gate_dst (N := 8) rfl ?_); refine box_event ?hg (N := 8) ?hd (cs := #[.int .i64 0, .slice none 0 0, .slice none 0 0, .int .i64 0]) (t := 31) ?hr ?_; (case hd => rfl); (case hg => rfl); (case hr => exact zq2); intro gb441 hg w34 hbox hb; replace HO406 := rB zq76 hb; replace HO409 := rB zq77 hb; replace HO414 := rB zq78 hb; replace HO417 := rB zq79 hb; replace HO425 := rB zq85 hb; replace HO428 := rB zq86 hb; replace HO434 := rB (by (with_reducible repeat (first | apply Kd.R_alloc | apply Kd.R_drewN | apply Kd.R_drew)); exact HO434.out) hb; replace HO437 := rB (by (with_reducible repeat (first | apply Kd.R_alloc | apply Kd.R_drewN | apply Kd.R_drew)); exact HO437.out) hb; have BK441 := Aside0.mk hbox; have GW441 := Aside0.mk (by rw [hg]; exact (below_size zq94) : w.heap.size ≤ gb441); have GE441 := Aside0.mk (by rw [hg]; exact (below_size zq94) : w.heap.size ≤ gb441); replace HB := sB zq94 hb; have NB401_441 := Aside0.mk (zq285 : gb401 ≠ gb441); have NB441_401 := Aside0.mk (zq286 : gb441 ≠ gb401); replace BK401 := bF BK401 zq74 hb; have NB421_441 := Aside0.mk (zq287 : gb421 ≠ gb441); have NB441_421 := Aside0.mk (zq288 : gb441 ≠ gb421); replace BK421 := bF BK421 zq87 hb; have NB430_441 := Aside0.mk (by rw [hg]; exact Nat.ne_of_lt (blk_lt (g := gb430) (o := .cells #[.int .i64 t422, .slice Ao31 t423.length co31, .slice Ao32 t426.length co32, .int .i64 t429] 31 (0, 0)) zq95) : gb430 ≠ gb441); have NB441_430 := Aside0.mk (by rw [hg]; exact Nat.ne_of_gt (blk_lt (g := gb430) (o := .cells #[.int .i64 t422, .slice Ao31 t423.length co31, .slice Ao32 t426.length co32, .int .i64 t429] 31 (0, 0)) zq95) : gb441 ≠ gb430); replace BK430 := bF BK430 zq95 hb; clear hb hbox hg; have hnb35 := NB441_401.out; have hnc35 := NB401_441.out; have hnb36 := NB441_421.out; have hnc36 := NB421_441.out; have hnb37 := NB441_430.out; have hnc37 := NB430_441.out; obtain ⟨hcz38_0, hcz38_1, hcz38_2, hcz38_3, hfz38_0, hfz38_1, hfz38_2, hfz38_3⟩ := c4 (w := w34) BK441; obtain ⟨Ao39, co39, eo39⟩ := Kd.R_slice HO434.out; subst eo39; obtain ⟨Ao40, co40, eo40⟩ := Kd.R_slice HO437.out; subst eo40))
 (try simp only [Act.put, List.setIfInBounds_toArray, List.set_cons_zero, List.set_cons_succ])
 go_cut [50] (fun v50 wc => ∃ (kq : Nat) (x50_10 : Bool), v50 = .bool x50_10 ∧ Aside0 (laws_FnExactBegin.j0 kq t419 t420 t439 t440 x50_10 a0_0 l0_1 l0_2 a0_3 t411 t412 t415 t418 t422 t423 t426 t429 t431 t432 t435 t438 = some r) ∧ Aside0 (kq ≤ k) ∧ Aside0 (Kd.R k66 66 wc w.heap.size (fun k_ => some k_ ≠ ((.slice Ao31 t423.length co31) : Value).ownBlock ∧ some k_ ≠ ((.slice Ao39 t432.length co39) : Value).ownBlock) (.slice Ao23 t412.length co23) t412) ∧ Aside0 (Kd.R k68 68 wc w.heap.size (fun k_ => some k_ ≠ ((.slice Ao32 t426.length co32) : Value).ownBlock ∧ some k_ ≠ ((.slice Ao40 t435.length co40) : Value).ownBlock) (.slice Ao24 t415.length co24) t415) ∧ Aside0 (Kd.R k66 66 wc w.heap.size (fun k_ => some k_ ≠ ((.slice Ao23 t412.length co23) : Value).ownBlock ∧ some k_ ≠ ((.slice Ao39 t432.length co39) : Value).ownBlock) (.slice Ao31 t423.length co31) t423) ∧ Aside0 (Kd.R k68 68 wc w.heap.size (fun k_ => some k_ ≠ ((.slice Ao24 t415.length co24) : Value).ownBlock ∧ some k_ ≠ ((.slice Ao40 t435.length co40) : Value).ownBlock) (.slice Ao32 t426.length co32) t426) ∧ Aside0 (Kd.R k66 66 wc w.heap.size (fun k_ => some k_ ≠ ((.slice Ao23 t412.length co23) : Value).ownBlock ∧ some k_ ≠ ((.slice Ao31 t423.length co31) : Value).ownBlock) (.slice Ao39 t432.length co39) t432) ∧ Aside0 (Kd.R k68 68 wc w.heap.size (fun k_ => some k_ ≠ ((.slice Ao24 t415.length co24) : Value).ownBlock ∧ some k_ ≠ ((.slice Ao32 t426.length co32) : Value).ownBlock) (.slice Ao40 t435.length co40) t435) ∧ Aside0 (wc.heap[gb401]? = some (.cells #[.int .i64 a0_0, (.slice A0_1 l0_1.length c0_1), (.slice A0_2 l0_2.length c0_2), .int .i64 a0_3] 25 (0, 0))) ∧ Aside0 (wc.heap[gb421]? = some (.cells #[.int .i64 t411, (.slice Ao23 t412.length co23), (.slice Ao24 t415.length co24), .int .i64 t418] 31 (0, 0))) ∧ Aside0 (wc.heap[gb430]? = some (.cells #[.int .i64 t422, (.slice Ao31 t423.length co31), (.slice Ao32 t426.length co32), .int .i64 t429] 31 (0, 0))) ∧ Aside0 (wc.heap[gb441]? = some (.cells #[.int .i64 t431, (.slice Ao39 t432.length co39), (.slice Ao40 t435.length co40), .int .i64 t438] 31 (0, 0))) ∧ Aside0 (Below w.heap.size w wc))
 case first =>
  have H := HC11.out
  clear HC11
  replace H := Option.bind_eq_some_iff.mp H
  obtain ⟨t442, A410, H⟩ := H
  try dsimp only at H
  have A41 := Aside0.mk A410
  clear A410
  by_cases c42 : t442 = true
  ·
   subst c42
   have H1 : (if t439 = t419 then (laws_FnExactBegin.j0 k t419 t420 t439 t440 (t440 != t420) a0_0 l0_1 l0_2 a0_3 t411 t412 t415 t418 t422 t423 t426 t429 t431 t432 t435 t438) else (laws_FnExactBegin.j0 k t419 t420 t439 t440 true a0_0 l0_1 l0_2 a0_3 t411 t412 t415 t418 t422 t423 t426 t429 t431 t432 t435 t438)) = some r := by rw [if_pos rfl] at H; exact H
   clear H
   have H := H1
   clear H1
   by_cases c43 : t439 = t419
   ·
    rw [if_pos c43] at H
    have c43b0 : (t439 == t419) = true := beq_iff_eq.mpr c43
    have c43b1 : (t439 != t419) = false := bne_eq_false_iff_eq.mpr c43
    clear c43
    (first | rw [c43b0] | (simp only [i64_w, i32_w]; rw [c43b0]) | skip)
    have H' := Aside0.mk H
    clear H
    have hnb44 := NB441_401.out
    have hnc44 := NB401_441.out
    have hnb45 := NB441_421.out
    have hnc45 := NB421_441.out
    have hnb46 := NB441_430.out
    have hnc46 := NB430_441.out
    obtain ⟨hcz47_0, hcz47_1, hcz47_2, hcz47_3, hfz47_0, hfz47_1, hfz47_2, hfz47_3⟩ := c4 (w := w34) BK441
    have hnb48 := NB421_401.out
    have hnc48 := NB401_421.out
    have hnb49 := NB421_430.out
    have hnc49 := NB430_421.out
    obtain ⟨hcz50_0, hcz50_1, hcz50_2, hcz50_3, hfz50_0, hfz50_1, hfz50_2, hfz50_3⟩ := c4 (w := w34) BK421
    go_wp2_with (first | ((with_reducible refine gC 19 rfl ?_); refine gL 39 Try.func19 #[.agg #[.int .i64 t431, .slice Ao39 t432.length co39, .slice Ao40 t435.length co40, .int .i64 t438], .agg #[.int .i64 t411, .slice Ao23 t412.length co23, .slice Ao24 t415.length co24, .int .i64 t418]] ?_; (with_reducible refine (laws_eqStore.calls k t431 _ _ t432 _ _ t435 t438 t411 _ _ t412 _ _ t415 t418 true _ ?_ ?_ ?_ ?_ ?_ ?_ ?_ ?_ A41.out).mono ?_); exact zq289; exact zq97; exact zq290; exact zq99; exact zq291; exact zq101; exact zq292; exact zq103; rintro e w51 ⟨rfl, hb⟩; refine ⟨_, rfl, ?_⟩; replace HO406 := rB zq104 hb; replace HO409 := rB zq105 hb; replace HO414 := rB zq100 hb; replace HO417 := rB zq102 hb; replace HO425 := rB zq106 hb; replace HO428 := rB zq107 hb; replace HO434 := rB zq96 hb; replace HO437 := rB zq98 hb; replace BK401 := bF BK401 zq108 hb; replace BK421 := bF BK421 zq109 hb; replace BK430 := bF BK430 zq110 hb; replace BK441 := bB (g := gb441) (o := .cells #[.int .i64 t431, .slice Ao39 t432.length co39, .slice Ao40 t435.length co40, .int .i64 t438] 31 (0, 0)) zq111 hb; replace HB := sB zq112 hb; clear hb))
    go_meet
    case rel => exact ⟨_, ((t440 != t420)), zq6, H', ⟨zq42⟩, ⟨zq113⟩, ⟨zq114⟩, ⟨zq115⟩, ⟨zq116⟩, ⟨zq117⟩, ⟨zq118⟩, ⟨zq74⟩, ⟨zq87⟩, ⟨zq95⟩, ⟨zq119⟩, ⟨zq112⟩⟩
   rw [if_neg c43] at H
   have c43b0 : (t439 == t419) = false := beq_eq_false_iff_ne.mpr c43
   have c43b1 : (t439 != t419) = true := bne_iff_ne.mpr c43
   (first | rw [c43b0] | (simp only [i64_w, i32_w]; rw [c43b0]) | skip)
   have H' := Aside0.mk H
   clear H
   have hnb52 := NB441_401.out
   have hnc52 := NB401_441.out
   have hnb53 := NB441_421.out
   have hnc53 := NB421_441.out
   have hnb54 := NB441_430.out
   have hnc54 := NB430_441.out
   obtain ⟨hcz55_0, hcz55_1, hcz55_2, hcz55_3, hfz55_0, hfz55_1, hfz55_2, hfz55_3⟩ := c4 (w := w34) BK441
   have hnb56 := NB421_401.out
   have hnc56 := NB401_421.out
   have hnb57 := NB421_430.out
   have hnc57 := NB430_421.out
   obtain ⟨hcz58_0, hcz58_1, hcz58_2, hcz58_3, hfz58_0, hfz58_1, hfz58_2, hfz58_3⟩ := c4 (w := w34) BK421
   go_wp2_with (first | ((with_reducible refine gC 19 rfl ?_); refine gL 39 Try.func19 #[.agg #[.int .i64 t431, .slice Ao39 t432.length co39, .slice Ao40 t435.length co40, .int .i64 t438], .agg #[.int .i64 t411, .slice Ao23 t412.length co23, .slice Ao24 t415.length co24, .int .i64 t418]] ?_; (with_reducible refine (laws_eqStore.calls k t431 _ _ t432 _ _ t435 t438 t411 _ _ t412 _ _ t415 t418 true _ ?_ ?_ ?_ ?_ ?_ ?_ ?_ ?_ A41.out).mono ?_); exact zq289; exact zq97; exact zq290; exact zq99; exact zq291; exact zq101; exact zq292; exact zq103; rintro e w59 ⟨rfl, hb⟩; refine ⟨_, rfl, ?_⟩; replace HO406 := rB zq104 hb; replace HO409 := rB zq105 hb; replace HO414 := rB zq100 hb; replace HO417 := rB zq102 hb; replace HO425 := rB zq106 hb; replace HO428 := rB zq107 hb; replace HO434 := rB zq96 hb; replace HO437 := rB zq98 hb; replace BK401 := bF BK401 zq108 hb; replace BK421 := bF BK421 zq109 hb; replace BK430 := bF BK430 zq110 hb; replace BK441 := bB (g := gb441) (o := .cells #[.int .i64 t431, .slice Ao39 t432.length co39, .slice Ao40 t435.length co40, .int .i64 t438] 31 (0, 0)) zq111 hb; replace HB := sB zq112 hb; clear hb))
   go_meet
   case rel => exact ⟨_, (true), zq6, H', ⟨zq42⟩, ⟨zq113⟩, ⟨zq114⟩, ⟨zq115⟩, ⟨zq116⟩, ⟨zq117⟩, ⟨zq118⟩, ⟨zq74⟩, ⟨zq87⟩, ⟨zq95⟩, ⟨zq119⟩, ⟨zq112⟩⟩
  replace c42 := Bool.eq_false_iff.mpr c42
  subst c42
  have H1 : (laws_FnExactBegin.j0 k t419 t420 t439 t440 true a0_0 l0_1 l0_2 a0_3 t411 t412 t415 t418 t422 t423 t426 t429 t431 t432 t435 t438) = some r := by rw [if_neg (show ¬ (false = true) by decide)] at H; exact H
  clear H
  have H := H1
  clear H1
  have H' := Aside0.mk H
  clear H
  have hnb60 := NB441_401.out
  have hnc60 := NB401_441.out
  have hnb61 := NB441_421.out
  have hnc61 := NB421_441.out
  have hnb62 := NB441_430.out
  have hnc62 := NB430_441.out
  obtain ⟨hcz63_0, hcz63_1, hcz63_2, hcz63_3, hfz63_0, hfz63_1, hfz63_2, hfz63_3⟩ := c4 (w := w34) BK441
  have hnb64 := NB421_401.out
  have hnc64 := NB401_421.out
  have hnb65 := NB421_430.out
  have hnc65 := NB430_421.out
  obtain ⟨hcz66_0, hcz66_1, hcz66_2, hcz66_3, hfz66_0, hfz66_1, hfz66_2, hfz66_3⟩ := c4 (w := w34) BK421
  go_wp2_with (first | ((with_reducible refine gC 19 rfl ?_); refine gL 39 Try.func19 #[.agg #[.int .i64 t431, .slice Ao39 t432.length co39, .slice Ao40 t435.length co40, .int .i64 t438], .agg #[.int .i64 t411, .slice Ao23 t412.length co23, .slice Ao24 t415.length co24, .int .i64 t418]] ?_; (with_reducible refine (laws_eqStore.calls k t431 _ _ t432 _ _ t435 t438 t411 _ _ t412 _ _ t415 t418 false _ ?_ ?_ ?_ ?_ ?_ ?_ ?_ ?_ A41.out).mono ?_); exact zq289; exact zq97; exact zq290; exact zq99; exact zq291; exact zq101; exact zq292; exact zq103; rintro e w67 ⟨rfl, hb⟩; refine ⟨_, rfl, ?_⟩; replace HO406 := rB zq104 hb; replace HO409 := rB zq105 hb; replace HO414 := rB zq100 hb; replace HO417 := rB zq102 hb; replace HO425 := rB zq106 hb; replace HO428 := rB zq107 hb; replace HO434 := rB zq96 hb; replace HO437 := rB zq98 hb; replace BK401 := bF BK401 zq108 hb; replace BK421 := bF BK421 zq109 hb; replace BK430 := bF BK430 zq110 hb; replace BK441 := bB (g := gb441) (o := .cells #[.int .i64 t431, .slice Ao39 t432.length co39, .slice Ao40 t435.length co40, .int .i64 t438] 31 (0, 0)) zq111 hb; replace HB := sB zq112 hb; clear hb))
  go_meet
  case rel => exact ⟨_, (true), zq6, H', ⟨zq42⟩, ⟨zq113⟩, ⟨zq114⟩, ⟨zq115⟩, ⟨zq116⟩, ⟨zq117⟩, ⟨zq118⟩, ⟨zq74⟩, ⟨zq87⟩, ⟨zq95⟩, ⟨zq119⟩, ⟨zq112⟩⟩
 case rest =>
  clear HC11
  try clear c1
  try clear c2
  try clear p2
  try clear c3
  try clear c3b0
  try clear c4
  try clear c5
  try clear c6
  try clear c7
  try clear c15
  try clear c17
  try clear c19
  try clear c21
  try clear c28
  try clear c29
  try clear c30
  try clear c31
  try clear c35
  try clear c36
  try clear c37
  try clear c42
  try clear c43
  try clear c43b0
  try clear c43b1
  try clear c44
  try clear c45
  try clear c46
  try clear c48
  try clear c49
  try clear c52
  try clear c53
  try clear c54
  try clear c56
  try clear c57
  try clear c60
  try clear c61
  try clear c62
  try clear c64
  try clear c65
  try clear hcz13_0
  try clear hcz13_1
  try clear hcz13_2
  try clear hcz13_3
  try clear hcz15_0
  try clear hcz15_1
  try clear hcz15_2
  try clear hcz15_3
  try clear hcz22_0
  try clear hcz22_1
  try clear hcz22_2
  try clear hcz22_3
  try clear hcz25_0
  try clear hcz25_1
  try clear hcz25_2
  try clear hcz25_3
  try clear hcz30_0
  try clear hcz30_1
  try clear hcz30_2
  try clear hcz30_3
  try clear hcz38_0
  try clear hcz38_1
  try clear hcz38_2
  try clear hcz38_3
  try clear hcz47_0
  try clear hcz47_1
  try clear hcz47_2
  try clear hcz47_3
  try clear hcz50_0
  try clear hcz50_1
  try clear hcz50_2
  try clear hcz50_3
  try clear hcz55_0
  try clear hcz55_1
  try clear hcz55_2
  try clear hcz55_3
  try clear hcz58_0
  try clear hcz58_1
  try clear hcz58_2
  try clear hcz58_3
  try clear hcz5_0
  try clear hcz5_1
  try clear hcz5_2
  try clear hcz5_3
  try clear hcz63_0
  try clear hcz63_1
  try clear hcz63_2
  try clear hcz63_3
  try clear hcz66_0
  try clear hcz66_1
  try clear hcz66_2
  try clear hcz66_3
  try clear hfz13_0
  try clear hfz13_1
  try clear hfz13_2
  try clear hfz13_3
  try clear hfz15_0
  try clear hfz15_1
  try clear hfz15_2
  try clear hfz15_3
  try clear hfz22_0
  try clear hfz22_1
  try clear hfz22_2
  try clear hfz22_3
  try clear hfz25_0
  try clear hfz25_1
  try clear hfz25_2
  try clear hfz25_3
  try clear hfz30_0
  try clear hfz30_1
  try clear hfz30_2
  try clear hfz30_3
  try clear hfz38_0
  try clear hfz38_1
  try clear hfz38_2
  try clear hfz38_3
  try clear hfz47_0
  try clear hfz47_1
  try clear hfz47_2
  try clear hfz47_3
  try clear hfz50_0
  try clear hfz50_1
  try clear hfz50_2
  try clear hfz50_3
  try clear hfz55_0
  try clear hfz55_1
  try clear hfz55_2
  try clear hfz55_3
  try clear hfz58_0
  try clear hfz58_1
  try clear hfz58_2
  try clear hfz58_3
  try clear hfz5_0
  try clear hfz5_1
  try clear hfz5_2
  try clear hfz5_3
  try clear hfz63_0
  try clear hfz63_1
  try clear hfz63_2
  try clear hfz63_3
  try clear hfz66_0
  try clear hfz66_1
  try clear hfz66_2
  try clear hfz66_3
  obtain ⟨kq, x50_10, rfl, HA, HJ10, HO_422001, HO_422002, HO_431001, HO_431002, HO_442001, HO_442002, BK401, BK421, BK430, BK441, HB⟩ := hcut
  cases kq with
  | zero => exact absurd HA.out (by simp [laws_FnExactBegin.j0])
  | succ kj10 =>
   have H := HA.out
   clear HA
   simp only [laws_FnExactBegin.j0] at H
   by_cases c68 : x50_10 = true
   ·
    subst c68
    have H1 : (some false) = some r := by rw [if_pos rfl] at H; exact H
    clear H
    have H := H1
    clear H1
    obtain rfl := Option.some.inj H
    go_wp2
    go_ret
    exact ⟨zq4, zq112⟩
   replace c68 := Bool.eq_false_iff.mpr c68
   subst c68
   have H1 : ((laws_toStore.f kj10 a0_0 l0_1 l0_2 a0_3).bind fun bt443 => ((laws_eqStore.f kj10 t422 t423 t426 t429 bt443.1 bt443.2.1 bt443.2.2.1 bt443.2.2.2).bind fun t451 => (if t451 = true then ((laws_markStore.f kj10 t422 t423 t426 t429 1).bind fun bt452 => (if bt452.1 < 0 then (laws_FnExactBegin.j1 kj10 t419 t420 true a0_0 l0_1 l0_2 a0_3 t411 t412 t415 t418 t431 t432 t435 t438) else ((laws_eqStore.f kj10 t431 t432 t435 t438 t411 t412 t415 t418).bind fun t455 => (if t455 = true then (if t439 = t419 then (laws_FnExactBegin.j1 kj10 t419 t420 (t440 != t420) a0_0 l0_1 l0_2 a0_3 t411 t412 t415 t418 t431 t432 t435 t438) else (laws_FnExactBegin.j1 kj10 t419 t420 true a0_0 l0_1 l0_2 a0_3 t411 t412 t415 t418 t431 t432 t435 t438)) else (laws_FnExactBegin.j1 kj10 t419 t420 true a0_0 l0_1 l0_2 a0_3 t411 t412 t415 t418 t431 t432 t435 t438))))) else (some false)))) = some r := by rw [if_neg (show ¬ (false = true) by decide)] at H; exact H
   clear H
   have H := H1
   clear H1
   replace H := Option.bind_eq_some_iff.mp H
   obtain ⟨⟨t443, t444, t447, t450⟩, A690, H⟩ := H
   try dsimp only at H
   have A69 := Aside0.mk A690
   clear A690
   replace H := Option.bind_eq_some_iff.mp H
   obtain ⟨t451, A700, H⟩ := H
   try dsimp only at H
   have A70 := Aside0.mk A700
   clear A700
   by_cases c71 : t451 = true
   ·
    subst c71
    have H1 : ((laws_markStore.f kj10 t422 t423 t426 t429 1).bind fun bt452 => (if bt452.1 < 0 then (laws_FnExactBegin.j1 kj10 t419 t420 true a0_0 l0_1 l0_2 a0_3 t411 t412 t415 t418 t431 t432 t435 t438) else ((laws_eqStore.f kj10 t431 t432 t435 t438 t411 t412 t415 t418).bind fun t455 => (if t455 = true then (if t439 = t419 then (laws_FnExactBegin.j1 kj10 t419 t420 (t440 != t420) a0_0 l0_1 l0_2 a0_3 t411 t412 t415 t418 t431 t432 t435 t438) else (laws_FnExactBegin.j1 kj10 t419 t420 true a0_0 l0_1 l0_2 a0_3 t411 t412 t415 t418 t431 t432 t435 t438)) else (laws_FnExactBegin.j1 kj10 t419 t420 true a0_0 l0_1 l0_2 a0_3 t411 t412 t415 t418 t431 t432 t435 t438))))) = some r := by rw [if_pos rfl] at H; exact H
    clear H
    have H := H1
    clear H1
    replace H := Option.bind_eq_some_iff.mp H
    obtain ⟨⟨t452, t453, t454⟩, A720, H⟩ := H
    try dsimp only at H
    have A72 := Aside0.mk A720
    clear A720
    have HC73 := Aside0.mk H
    clear H
    try go_wp2
    replace HO_422001 := Aside0.mk (Kd.R_drew HO_422001.out)
    replace HO_422002 := Aside0.mk (Kd.R_drew HO_422002.out)
    replace HO_431001 := Aside0.mk (Kd.R_drew HO_431001.out)
    replace HO_431002 := Aside0.mk (Kd.R_drew HO_431002.out)
    replace HO_442001 := Aside0.mk (Kd.R_drew HO_442001.out)
    replace HO_442002 := Aside0.mk (Kd.R_drew HO_442002.out)
    replace BK401 := Aside0.mk (blk_drew BK401.out)
    replace BK421 := Aside0.mk (blk_drew BK421.out)
    replace BK430 := Aside0.mk (blk_drew BK430.out)
    replace BK441 := Aside0.mk (blk_drew BK441.out)
    replace HB := Aside0.mk (below_drew1 HB.out)
    refine start_ (n := 5) (S := fun w' => w'.cell? ⟨gb430, 0, none⟩ = some (.int .i64 t422) ∧ w'.cell? ⟨gb430, 1, none⟩ = some (.slice Ao31 t423.length co31) ∧ w'.cell? ⟨gb430, 2, none⟩ = some (.slice Ao32 t426.length co32) ∧ w'.cell? ⟨gb430, 3, none⟩ = some (.int .i64 t429) ∧ w'.cell? ⟨gb401, 0, none⟩ = some (.int .i64 a0_0) ∧ w'.cell? ⟨gb401, 1, none⟩ = some (.slice A0_1 l0_1.length c0_1) ∧ w'.cell? ⟨gb401, 2, none⟩ = some (.slice A0_2 l0_2.length c0_2) ∧ w'.cell? ⟨gb401, 3, none⟩ = some (.int .i64 a0_3)) (ds := []) #[false, false, false, false, false] (by kernel_rfl) rfl rfl ⟨(blk_cell BK430.out 0).trans rfl, (blk_cell BK430.out 1).trans rfl, (blk_cell BK430.out 2).trans rfl, (blk_cell BK430.out 3).trans rfl, (blk_cell BK401.out 0).trans rfl, (blk_cell BK401.out 1).trans rfl, (blk_cell BK401.out 2).trans rfl, (blk_cell BK401.out 3).trans rfl⟩ (fun hHeld => ?_)
    generalize wc.drew = w74 at HO_422001 HO_422002 HO_431001 HO_431002 HO_442001 HO_442002 BK401 BK421 BK430 BK441 HB hHeld ⊢
    refine take_ (i := 0) (N := some 51) (v := ?_) (a' := ?_) #[true, false, false, false, false] rfl rfl (by kernel_rfl) (fun _ _ _ h => h) (Or.inl ⟨by rfl, ?_⟩) hHeld ?_ ?_
    rotate_left
    exact zq331
    rotate_left
    exact zq328
    refine take_ (i := 1) (N := some 52) (v := ?_) (a' := ?_) #[true, true, false, false, false] rfl rfl (by kernel_rfl) (fun _ _ _ h => h) (Or.inl ⟨by rfl, ?_⟩) hHeld ?_ ?_
    rotate_left
    exact zq331
    rotate_left
    exact zq328
    refine one_ (i := 2) (N := some 53) #[true, true, true, false, false] rfl rfl (by kernel_rfl) (by decide) (fun K hK => ?_)
    refine goes_ Try.func17 (by kernel_rfl) rfl #[.agg #[.int .i64 a0_0, .slice A0_1 l0_1.length c0_1, .slice A0_2 l0_2.length c0_2, .int .i64 a0_3]] (by rfl) rfl rfl zq8 ?_
    with_reducible refine (laws_toStore.calls kj10 a0_0 _ _ l0_1 _ _ l0_2 a0_3 t443 t444 t447 t450 _ ?side1 ?side2 ?side3 ?side4 A69.out).mono ?_
    (case side1 => exact zq11)
    (case side2 => exact zq12)
    (case side3 => exact zq15)
    (case side4 => exact zq16)
    rintro e w75 ⟨v445, v448, rfl, ho0, ho1, hb⟩
    refine ⟨_, rfl, ?_⟩
    have HO446 := Aside0.mk (Kd.R_lower (Kd.R_new' (Kd.R_new' (Kd.R_new' ho0 (Kd.R_lt zq120)) (Kd.R_lt zq122)) (Kd.R_lt zq124)) (below_size zq112))
    replace HO_422001 := Aside0.mk (Kd.R_elder' zq120 (Kd.R_base ho0) hb)
    replace HO_431001 := Aside0.mk (Kd.R_elder' zq122 (Kd.R_base ho0) hb)
    replace HO_442001 := Aside0.mk (Kd.R_elder' zq124 (Kd.R_base ho0) hb)
    have HO449 := Aside0.mk (Kd.R_lower (Kd.R_new' (Kd.R_new' (Kd.R_new' ho1 (Kd.R_lt zq121)) (Kd.R_lt zq123)) (Kd.R_lt zq125)) (below_size zq112))
    replace HO_422002 := Aside0.mk (Kd.R_elder' zq121 (Kd.R_base ho1) hb)
    replace HO_431002 := Aside0.mk (Kd.R_elder' zq123 (Kd.R_base ho1) hb)
    replace HO_442002 := Aside0.mk (Kd.R_elder' zq125 (Kd.R_base ho1) hb)
    replace BK401 := bF BK401 zq74 hb
    replace BK421 := bF BK421 zq87 hb
    replace BK430 := bF BK430 zq95 hb
    replace BK441 := bF BK441 zq119 hb
    replace HB := sB zq112 hb
    (try clear hb)
    (try clear hb2)
    (try clear hk)
    (try clear hi)
    (try clear ho0)
    (try clear ho1)
    obtain ⟨Ao76, co76, eo76⟩ := Kd.R_slice HO446.out
    (first | subst eo76 | (injection eo76 with f1_ f2_ f3_; have f4_ := f1_.symm; have f5_ := f3_.symm; clear f1_ f2_ f3_; subst f4_; subst f5_))
    obtain ⟨Ao77, co77, eo77⟩ := Kd.R_slice HO449.out
    (first | subst eo77 | (injection eo77 with f1_ f2_ f3_; have f4_ := f1_.symm; have f5_ := f3_.symm; clear f1_ f2_ f3_; subst f4_; subst f5_))
    refine hK.out _ _ ⟨(blk_cell BK430.out 0).trans rfl, (blk_cell BK430.out 1).trans rfl, (blk_cell BK430.out 2).trans rfl, (blk_cell BK430.out 3).trans rfl, (blk_cell BK401.out 0).trans rfl, (blk_cell BK401.out 1).trans rfl, (blk_cell BK401.out 2).trans rfl, (blk_cell BK401.out 3).trans rfl⟩ (fun hHeld => ?_)
    clear hK K
    refine norm_ (a' := ?_) ?_ ?_
    rotate_left
    ·
     show Act.put _ (some 53) _ = _
     simp only [Act.put, List.setIfInBounds_toArray, List.set_cons_zero, List.set_cons_succ, i64_w, i32_w]
     rfl
    refine one_ (i := 3) (N := some 54) #[true, true, true, true, false] rfl rfl (by kernel_rfl) (by decide) (fun K hK => ?_)
    refine goes_ Try.func19 (by kernel_rfl) rfl #[.agg #[.int .i64 t422, .slice Ao31 t423.length co31, .slice Ao32 t426.length co32, .int .i64 t429], .agg #[.int .i64 t443, .slice Ao76 t444.length co76, .slice Ao77 t447.length co77, .int .i64 t450]] (by rfl) rfl rfl zq8 ?_
    with_reducible refine (laws_eqStore.calls kj10 t422 _ _ t423 _ _ t426 t429 t443 _ _ t444 _ _ t447 t450 true _ ?side1 ?side2 ?side3 ?side4 ?side5 ?side6 ?side7 ?side8 A70.out).mono ?_
    (case side1 => exact zq126)
    (case side2 => exact (Kd.R_reads' HO_431001.out).2.1)
    (case side3 => exact zq127)
    (case side4 => exact (Kd.R_reads' HO_431002.out).2.1)
    (case side5 => exact zq128)
    (case side6 => exact (Kd.R_reads' HO446.out).2.1)
    (case side7 => exact zq129)
    (case side8 => exact (Kd.R_reads' HO449.out).2.1)
    rintro e w78 ⟨rfl, hb⟩
    refine ⟨_, rfl, ?_⟩
    replace HO_422001 := rB zq120 hb
    replace HO_422002 := rB zq121 hb
    replace HO_431001 := rB zq122 hb
    replace HO_431002 := rB zq123 hb
    replace HO_442001 := rB zq124 hb
    replace HO_442002 := rB zq125 hb
    replace HO446 := rB zq130 hb
    replace HO449 := rB zq131 hb
    replace BK401 := bF BK401 zq74 hb
    replace BK421 := bF BK421 zq87 hb
    replace BK430 := bF BK430 zq95 hb
    replace BK441 := bF BK441 zq119 hb
    replace HB := sB zq112 hb
    (try clear hb)
    (try clear hb2)
    (try clear hk)
    (try clear hi)
    refine hK.out _ _ ⟨(blk_cell BK430.out 0).trans rfl, (blk_cell BK430.out 1).trans rfl, (blk_cell BK430.out 2).trans rfl, (blk_cell BK430.out 3).trans rfl, (blk_cell BK401.out 0).trans rfl, (blk_cell BK401.out 1).trans rfl, (blk_cell BK401.out 2).trans rfl, (blk_cell BK401.out 3).trans rfl⟩ (fun hHeld => ?_)
    clear hK K
    refine norm_ (a' := ?_) ?_ ?_
    rotate_left
    ·
     show Act.put _ (some 54) _ = _
     simp only [Act.put, List.setIfInBounds_toArray, List.set_cons_zero, List.set_cons_succ, i64_w, i32_w]
     rfl
    refine pure_ (i := 4) (N := some 55) (v := ?_) (a' := ?_) #[true, true, true, true, true] rfl rfl (by kernel_rfl) (fun _ _ _ h => h) (Or.inl ⟨by rfl, ?_⟩) ?_ ?_
    rotate_left
    exact zq327
    rotate_left
    exact zq328
    refine done_ (by kernel_rfl) ?_
    have hnb79 := NB430_401.out
    have hnc79 := NB401_430.out
    have hnb80 := NB430_421.out
    have hnc80 := NB421_430.out
    have hnb81 := NB430_441.out
    have hnc81 := NB441_430.out
    obtain ⟨hcz82_0, hcz82_1, hcz82_2, hcz82_3, hfz82_0, hfz82_1, hfz82_2, hfz82_3⟩ := c4 (w := w78) BK430
    go_upto_region 14 with (first | ((with_reducible refine gC 27 rfl ?_); refine gL 58 Try.func27 #[.agg #[.int .i64 t422, .slice Ao31 t423.length co31, .slice Ao32 t426.length co32, .int .i64 t429], .int .i64 1] ?_; (with_reducible refine (laws_markStore.calls kj10 t422 (fun k_ => some k_ = (.slice Ao31 t423.length co31 : Value).ownBlock) (.slice Ao31 t423.length co31) t423 (fun k_ => some k_ = (.slice Ao32 t426.length co32 : Value).ownBlock) (.slice Ao32 t426.length co32) t426 t429 1 t452 t453 t454 w _ ?_ ?_ ?_ A72.out).mono ?_); exact zq112; exact Kd.R_tight rfl HO_431001.out; exact Kd.R_tight rfl HO_431002.out; rintro e w83 ⟨rfl, hy0, hy1, hb, hkp⟩; refine ⟨_, rfl, ?_⟩; replace HO_422001 := Aside0.mk (Kd.R_mono (ok' := fun k_ => some k_ ≠ (.slice Ao31 t423.length co31 : Value).ownBlock ∧ some k_ ≠ (.slice Ao39 t432.length co39 : Value).ownBlock ∧ some k_ ≠ (.slice Ao76 t444.length co76 : Value).ownBlock) (Kd.R_keptB ((Kd.R_apart' HO_422001.out (Kd.R_typed HO_431002.out) (by decide))) hkp (fun k_ hk_ hs_ => Or.elim hs_ (fun e_ => by first | exact hk_.1.1.1 e_ | exact hk_.1.1 e_ | exact hk_.1.2 e_ | exact hk_.1.1.2 e_ | exact hk_.1.2.1 e_ | exact hk_.1.2.2 e_ | exact hk_.2 e_ | simp_all) (fun e_ => by first | exact hk_.2 e_ | exact hk_.1.1 e_ | exact hk_.1.2 e_ | exact hk_.1.1.1 e_ | exact hk_.1.1.2 e_ | exact hk_.1.2.1 e_ | exact hk_.1.2.2 e_ | simp_all))) (fun k_ hk_ => by first | exact ⟨hk_.1.1.1.1, hk_.1.1.1.2, hk_.1.1.2⟩ | simp_all)); replace HO_422002 := Aside0.mk (Kd.R_mono (ok' := fun k_ => some k_ ≠ (.slice Ao32 t426.length co32 : Value).ownBlock ∧ some k_ ≠ (.slice Ao40 t435.length co40 : Value).ownBlock ∧ some k_ ≠ (.slice Ao77 t447.length co77 : Value).ownBlock) (Kd.R_keptB ((Kd.R_apart' HO_422002.out (Kd.R_typed HO_431001.out) (by decide))) hkp (fun k_ hk_ hs_ => Or.elim hs_ (fun e_ => by first | exact hk_.2 e_ | exact hk_.1.1 e_ | exact hk_.1.2 e_ | exact hk_.1.1.1 e_ | exact hk_.1.1.2 e_ | exact hk_.1.2.1 e_ | exact hk_.1.2.2 e_ | simp_all) (fun e_ => by first | exact hk_.1.1.1 e_ | exact hk_.1.1 e_ | exact hk_.1.2 e_ | exact hk_.1.1.2 e_ | exact hk_.1.2.1 e_ | exact hk_.1.2.2 e_ | exact hk_.2 e_ | simp_all))) (fun k_ hk_ => by first | exact ⟨hk_.1.1.1.1, hk_.1.1.1.2, hk_.1.1.2⟩ | simp_all)); replace HO_442001 := Aside0.mk (Kd.R_mono (ok' := fun k_ => some k_ ≠ (.slice Ao23 t412.length co23 : Value).ownBlock ∧ some k_ ≠ (.slice Ao31 t423.length co31 : Value).ownBlock ∧ some k_ ≠ (.slice Ao76 t444.length co76 : Value).ownBlock) (Kd.R_keptB ((Kd.R_apart' HO_442001.out (Kd.R_typed HO_431002.out) (by decide))) hkp (fun k_ hk_ hs_ => Or.elim hs_ (fun e_ => by first | exact hk_.1.1.2 e_ | exact hk_.1.1 e_ | exact hk_.1.2 e_ | exact hk_.1.1.1 e_ | exact hk_.1.2.1 e_ | exact hk_.1.2.2 e_ | exact hk_.2 e_ | simp_all) (fun e_ => by first | exact hk_.2 e_ | exact hk_.1.1 e_ | exact hk_.1.2 e_ | exact hk_.1.1.1 e_ | exact hk_.1.1.2 e_ | exact hk_.1.2.1 e_ | exact hk_.1.2.2 e_ | simp_all))) (fun k_ hk_ => by first | exact ⟨hk_.1.1.1.1, hk_.1.1.1.2, hk_.1.1.2⟩ | simp_all)); replace HO_442002 := Aside0.mk (Kd.R_mono (ok' := fun k_ => some k_ ≠ (.slice Ao24 t415.length co24 : Value).ownBlock ∧ some k_ ≠ (.slice Ao32 t426.length co32 : Value).ownBlock ∧ some k_ ≠ (.slice Ao77 t447.length co77 : Value).ownBlock) (Kd.R_keptB ((Kd.R_apart' HO_442002.out (Kd.R_typed HO_431001.out) (by decide))) hkp (fun k_ hk_ hs_ => Or.elim hs_ (fun e_ => by first | exact hk_.2 e_ | exact hk_.1.1 e_ | exact hk_.1.2 e_ | exact hk_.1.1.1 e_ | exact hk_.1.1.2 e_ | exact hk_.1.2.1 e_ | exact hk_.1.2.2 e_ | simp_all) (fun e_ => by first | exact hk_.1.1.2 e_ | exact hk_.1.1 e_ | exact hk_.1.2 e_ | exact hk_.1.1.1 e_ | exact hk_.1.2.1 e_ | exact hk_.1.2.2 e_ | exact hk_.2 e_ | simp_all))) (fun k_ hk_ => by first | exact ⟨hk_.1.1.1.1, hk_.1.1.1.2, hk_.1.1.2⟩ | simp_all)); replace BK401 := Aside0.mk (blk_kept zq132 hkp (fun hs_ => Or.elim hs_ (fun e_ => (fun e_ => (Kd.R_ne HO_431001.out BK401.out (by decide)) e_) e_) (fun e_ => (fun e_ => (Kd.R_ne HO_431002.out BK401.out (by decide)) e_) e_))); replace BK421 := Aside0.mk (blk_kept zq133 hkp (fun hs_ => Or.elim hs_ (fun e_ => (fun e_ => (Kd.R_ne HO_431001.out BK421.out (by decide)) e_) e_) (fun e_ => (fun e_ => (Kd.R_ne HO_431002.out BK421.out (by decide)) e_) e_))); replace BK430 := Aside0.mk (blk_kept zq134 hkp (fun hs_ => Or.elim hs_ (fun e_ => (fun e_ => (Kd.R_ne HO_431001.out BK430.out (by decide)) e_) e_) (fun e_ => (fun e_ => (Kd.R_ne HO_431002.out BK430.out (by decide)) e_) e_))); replace BK441 := Aside0.mk (blk_kept zq135 hkp (fun hs_ => Or.elim hs_ (fun e_ => (fun e_ => (Kd.R_ne HO_431001.out BK441.out (by decide)) e_) e_) (fun e_ => (fun e_ => (Kd.R_ne HO_431002.out BK441.out (by decide)) e_) e_))); replace HO446 := Aside0.mk (Kd.R_mono (ok' := fun k_ => some k_ ≠ (.slice Ao23 t412.length co23 : Value).ownBlock ∧ some k_ ≠ (.slice Ao31 t423.length co31 : Value).ownBlock ∧ some k_ ≠ (.slice Ao39 t432.length co39 : Value).ownBlock) (Kd.R_keptB ((Kd.R_apart' HO446.out (Kd.R_typed HO_431002.out) (by decide))) hkp (fun k_ hk_ hs_ => Or.elim hs_ (fun e_ => by first | exact hk_.1.1.2 e_ | exact hk_.1.1 e_ | exact hk_.1.2 e_ | exact hk_.1.1.1 e_ | exact hk_.1.2.1 e_ | exact hk_.1.2.2 e_ | exact hk_.2 e_ | simp_all) (fun e_ => by first | exact hk_.2 e_ | exact hk_.1.1 e_ | exact hk_.1.2 e_ | exact hk_.1.1.1 e_ | exact hk_.1.1.2 e_ | exact hk_.1.2.1 e_ | exact hk_.1.2.2 e_ | simp_all))) (fun k_ hk_ => by first | exact ⟨hk_.1.1.1.1.2, hk_.1.1.1.2, hk_.1.1.2⟩ | simp_all)); replace HO_431002 := Aside0.mk (Kd.R_reok rfl hy1 (fun k_ e_ => HO_431002.out.1 k_ e_)); replace HO449 := Aside0.mk (Kd.R_mono (ok' := fun k_ => some k_ ≠ (.slice Ao24 t415.length co24 : Value).ownBlock ∧ some k_ ≠ (.slice Ao32 t426.length co32 : Value).ownBlock ∧ some k_ ≠ (.slice Ao40 t435.length co40 : Value).ownBlock) (Kd.R_keptB ((Kd.R_apart' HO449.out (Kd.R_typed HO_431001.out) (by decide))) hkp (fun k_ hk_ hs_ => Or.elim hs_ (fun e_ => by first | exact hk_.2 e_ | exact hk_.1.1 e_ | exact hk_.1.2 e_ | exact hk_.1.1.1 e_ | exact hk_.1.1.2 e_ | exact hk_.1.2.1 e_ | exact hk_.1.2.2 e_ | simp_all) (fun e_ => by first | exact hk_.1.1.2 e_ | exact hk_.1.1 e_ | exact hk_.1.2 e_ | exact hk_.1.1.1 e_ | exact hk_.1.2.1 e_ | exact hk_.1.2.2 e_ | exact hk_.2 e_ | simp_all))) (fun k_ hk_ => by first | exact ⟨hk_.1.1.1.1.2, hk_.1.1.1.2, hk_.1.1.2⟩ | simp_all)); replace HO_431001 := Aside0.mk (Kd.R_reok rfl hy0 (fun k_ e_ => HO_431001.out.1 k_ e_)); replace HB := Aside0.mk hb; clear hb; (try clear hkp); (try clear hy0); (try clear hy1)))
    (try simp only [Act.put, List.setIfInBounds_toArray, List.set_cons_zero, List.set_cons_succ])
    go_cut [76] (fun v76 wc => ∃ (kq : Nat) (x76_72 : Bool), v76 = .bool x76_72 ∧ Aside0 (laws_FnExactBegin.j1 kq t419 t420 x76_72 a0_0 l0_1 l0_2 a0_3 t411 t412 t415 t418 t431 t432 t435 t438 = some r) ∧ Aside0 (kq ≤ kj10) ∧ Aside0 (Kd.R k66 66 wc w.heap.size (fun k_ => some k_ ≠ ((.slice Ao31 t423.length co31) : Value).ownBlock ∧ some k_ ≠ ((.slice Ao39 t432.length co39) : Value).ownBlock) (.slice Ao23 t412.length co23) t412) ∧ Aside0 (Kd.R k68 68 wc w.heap.size (fun k_ => some k_ ≠ ((.slice Ao32 t426.length co32) : Value).ownBlock ∧ some k_ ≠ ((.slice Ao40 t435.length co40) : Value).ownBlock) (.slice Ao24 t415.length co24) t415) ∧ Aside0 (Kd.R k66 66 wc w.heap.size (fun k_ => some k_ ≠ ((.slice Ao23 t412.length co23) : Value).ownBlock ∧ some k_ ≠ ((.slice Ao39 t432.length co39) : Value).ownBlock) (.slice Ao31 t423.length co31) t453) ∧ Aside0 (Kd.R k68 68 wc w.heap.size (fun k_ => some k_ ≠ ((.slice Ao24 t415.length co24) : Value).ownBlock ∧ some k_ ≠ ((.slice Ao40 t435.length co40) : Value).ownBlock) (.slice Ao32 t426.length co32) t454) ∧ Aside0 (Kd.R k66 66 wc w.heap.size (fun k_ => some k_ ≠ ((.slice Ao23 t412.length co23) : Value).ownBlock ∧ some k_ ≠ ((.slice Ao31 t423.length co31) : Value).ownBlock) (.slice Ao39 t432.length co39) t432) ∧ Aside0 (Kd.R k68 68 wc w.heap.size (fun k_ => some k_ ≠ ((.slice Ao24 t415.length co24) : Value).ownBlock ∧ some k_ ≠ ((.slice Ao32 t426.length co32) : Value).ownBlock) (.slice Ao40 t435.length co40) t435) ∧ Aside0 (wc.heap[gb401]? = some (.cells #[.int .i64 a0_0, (.slice A0_1 l0_1.length c0_1), (.slice A0_2 l0_2.length c0_2), .int .i64 a0_3] 25 (0, 0))) ∧ Aside0 (wc.heap[gb421]? = some (.cells #[.int .i64 t411, (.slice Ao23 t412.length co23), (.slice Ao24 t415.length co24), .int .i64 t418] 31 (0, 0))) ∧ Aside0 (wc.heap[gb430]? = some (.cells #[.int .i64 t422, (.slice Ao31 t423.length co31), (.slice Ao32 t426.length co32), .int .i64 t429] 31 (0, 0))) ∧ Aside0 (wc.heap[gb441]? = some (.cells #[.int .i64 t431, (.slice Ao39 t432.length co39), (.slice Ao40 t435.length co40), .int .i64 t438] 31 (0, 0))) ∧ Aside0 (Below w.heap.size w wc))
    case first =>
     have H := HC73.out
     clear HC73
     by_cases c84 : t452 < 0
     ·
      rw [if_pos c84] at H
      have c84b0 := decide_eq_true c84
      clear c84
      (first | rw [c84b0] | (simp only [i64_w, i32_w]; rw [c84b0]) | skip)
      have H' := Aside0.mk H
      clear H
      go_wp2
      go_meet
      case rel => exact ⟨_, (true), zq6, H', ⟨zq136⟩, ⟨zq137⟩, ⟨zq138⟩, ⟨zq139⟩, ⟨zq140⟩, ⟨zq141⟩, ⟨zq142⟩, ⟨zq74⟩, ⟨zq87⟩, ⟨zq95⟩, ⟨zq119⟩, ⟨zq112⟩⟩
     rw [if_neg c84] at H
     have c84b0 := decide_eq_false c84
     clear c84
     (first | rw [c84b0] | (simp only [i64_w, i32_w]; rw [c84b0]) | skip)
     replace H := Option.bind_eq_some_iff.mp H
     obtain ⟨t455, A850, H⟩ := H
     try dsimp only at H
     have A85 := Aside0.mk A850
     clear A850
     by_cases c86 : t455 = true
     ·
      subst c86
      have H1 : (if t439 = t419 then (laws_FnExactBegin.j1 kj10 t419 t420 (t440 != t420) a0_0 l0_1 l0_2 a0_3 t411 t412 t415 t418 t431 t432 t435 t438) else (laws_FnExactBegin.j1 kj10 t419 t420 true a0_0 l0_1 l0_2 a0_3 t411 t412 t415 t418 t431 t432 t435 t438)) = some r := by rw [if_pos rfl] at H; exact H
      clear H
      have H := H1
      clear H1
      by_cases c87 : t439 = t419
      ·
       rw [if_pos c87] at H
       have c87b0 : (t439 == t419) = true := beq_iff_eq.mpr c87
       have c87b1 : (t439 != t419) = false := bne_eq_false_iff_eq.mpr c87
       clear c87
       have H' := Aside0.mk H
       clear H
       have hnb88 := NB441_401.out
       have hnc88 := NB401_441.out
       have hnb89 := NB441_421.out
       have hnc89 := NB421_441.out
       have hnb90 := NB441_430.out
       have hnc90 := NB430_441.out
       obtain ⟨hcz91_0, hcz91_1, hcz91_2, hcz91_3, hfz91_0, hfz91_1, hfz91_2, hfz91_3⟩ := c4 (w := w83) BK441
       have hnb92 := NB421_401.out
       have hnc92 := NB401_421.out
       have hnb93 := NB421_430.out
       have hnc93 := NB430_421.out
       obtain ⟨hcz94_0, hcz94_1, hcz94_2, hcz94_3, hfz94_0, hfz94_1, hfz94_2, hfz94_3⟩ := c4 (w := w83) BK421
       go_wp2_with (first | (go_at_call 19; (with_reducible refine (laws_eqStore.calls kj10 t431 _ _ t432 _ _ t435 t438 t411 _ _ t412 _ _ t415 t418 true _ ?_ ?_ ?_ ?_ ?_ ?_ ?_ ?_ A85.out).mono ?_); exact zq143; exact zq144; exact zq145; exact zq146; exact zq147; exact zq148; exact zq149; exact zq150; rintro e w95 ⟨rfl, hb⟩; replace HO_422001 := rB zq120 hb; replace HO_422002 := rB zq121 hb; replace HO_431001 := rB zq122 hb; replace HO_431002 := rB zq123 hb; replace HO_442001 := rB zq124 hb; replace HO_442002 := rB zq125 hb; replace HO446 := rB zq130 hb; replace HO449 := rB zq131 hb; replace BK401 := bF BK401 zq74 hb; replace BK421 := bF BK421 zq87 hb; replace BK430 := bF BK430 zq95 hb; replace BK441 := bF BK441 zq119 hb; replace HB := sB zq112 hb; clear hb))
       go_meet
       case rel => exact ⟨_, ((t440 != t420)), zq6, H', ⟨zq136⟩, ⟨zq137⟩, ⟨zq138⟩, ⟨zq139⟩, ⟨zq140⟩, ⟨zq141⟩, ⟨zq142⟩, ⟨zq74⟩, ⟨zq87⟩, ⟨zq95⟩, ⟨zq119⟩, ⟨zq112⟩⟩
      rw [if_neg c87] at H
      have c87b0 : (t439 == t419) = false := beq_eq_false_iff_ne.mpr c87
      have c87b1 : (t439 != t419) = true := bne_iff_ne.mpr c87
      have H' := Aside0.mk H
      clear H
      have hnb96 := NB441_401.out
      have hnc96 := NB401_441.out
      have hnb97 := NB441_421.out
      have hnc97 := NB421_441.out
      have hnb98 := NB441_430.out
      have hnc98 := NB430_441.out
      obtain ⟨hcz99_0, hcz99_1, hcz99_2, hcz99_3, hfz99_0, hfz99_1, hfz99_2, hfz99_3⟩ := c4 (w := w83) BK441
      have hnb100 := NB421_401.out
      have hnc100 := NB401_421.out
      have hnb101 := NB421_430.out
      have hnc101 := NB430_421.out
      obtain ⟨hcz102_0, hcz102_1, hcz102_2, hcz102_3, hfz102_0, hfz102_1, hfz102_2, hfz102_3⟩ := c4 (w := w83) BK421
      go_wp2_with (first | (go_at_call 19; (with_reducible refine (laws_eqStore.calls kj10 t431 _ _ t432 _ _ t435 t438 t411 _ _ t412 _ _ t415 t418 true _ ?_ ?_ ?_ ?_ ?_ ?_ ?_ ?_ A85.out).mono ?_); exact zq143; exact zq144; exact zq145; exact zq146; exact zq147; exact zq148; exact zq149; exact zq150; rintro e w103 ⟨rfl, hb⟩; replace HO_422001 := rB zq120 hb; replace HO_422002 := rB zq121 hb; replace HO_431001 := rB zq122 hb; replace HO_431002 := rB zq123 hb; replace HO_442001 := rB zq124 hb; replace HO_442002 := rB zq125 hb; replace HO446 := rB zq130 hb; replace HO449 := rB zq131 hb; replace BK401 := bF BK401 zq74 hb; replace BK421 := bF BK421 zq87 hb; replace BK430 := bF BK430 zq95 hb; replace BK441 := bF BK441 zq119 hb; replace HB := sB zq112 hb; clear hb))
      go_meet
      case rel => exact ⟨_, (true), zq6, H', ⟨zq136⟩, ⟨zq137⟩, ⟨zq138⟩, ⟨zq139⟩, ⟨zq140⟩, ⟨zq141⟩, ⟨zq142⟩, ⟨zq74⟩, ⟨zq87⟩, ⟨zq95⟩, ⟨zq119⟩, ⟨zq112⟩⟩
     replace c86 := Bool.eq_false_iff.mpr c86
     subst c86
     have H1 : (laws_FnExactBegin.j1 kj10 t419 t420 true a0_0 l0_1 l0_2 a0_3 t411 t412 t415 t418 t431 t432 t435 t438) = some r := by rw [if_neg (show ¬ (false = true) by decide)] at H; exact H
     clear H
     have H := H1
     clear H1
     have H' := Aside0.mk H
     clear H
     have hnb104 := NB441_401.out
     have hnc104 := NB401_441.out
     have hnb105 := NB441_421.out
     have hnc105 := NB421_441.out
     have hnb106 := NB441_430.out
     have hnc106 := NB430_441.out
     obtain ⟨hcz107_0, hcz107_1, hcz107_2, hcz107_3, hfz107_0, hfz107_1, hfz107_2, hfz107_3⟩ := c4 (w := w83) BK441
     have hnb108 := NB421_401.out
     have hnc108 := NB401_421.out
     have hnb109 := NB421_430.out
     have hnc109 := NB430_421.out
     obtain ⟨hcz110_0, hcz110_1, hcz110_2, hcz110_3, hfz110_0, hfz110_1, hfz110_2, hfz110_3⟩ := c4 (w := w83) BK421
     go_wp2_with (first | (go_at_call 19; (with_reducible refine (laws_eqStore.calls kj10 t431 _ _ t432 _ _ t435 t438 t411 _ _ t412 _ _ t415 t418 false _ ?_ ?_ ?_ ?_ ?_ ?_ ?_ ?_ A85.out).mono ?_); exact zq143; exact zq144; exact zq145; exact zq146; exact zq147; exact zq148; exact zq149; exact zq150; rintro e w111 ⟨rfl, hb⟩; replace HO_422001 := rB zq120 hb; replace HO_422002 := rB zq121 hb; replace HO_431001 := rB zq122 hb; replace HO_431002 := rB zq123 hb; replace HO_442001 := rB zq124 hb; replace HO_442002 := rB zq125 hb; replace HO446 := rB zq130 hb; replace HO449 := rB zq131 hb; replace BK401 := bF BK401 zq74 hb; replace BK421 := bF BK421 zq87 hb; replace BK430 := bF BK430 zq95 hb; replace BK441 := bF BK441 zq119 hb; replace HB := sB zq112 hb; clear hb))
     go_meet
     case rel => exact ⟨_, (true), zq6, H', ⟨zq136⟩, ⟨zq137⟩, ⟨zq138⟩, ⟨zq139⟩, ⟨zq140⟩, ⟨zq141⟩, ⟨zq142⟩, ⟨zq74⟩, ⟨zq87⟩, ⟨zq95⟩, ⟨zq119⟩, ⟨zq112⟩⟩
    case rest =>
     clear HC73
     try clear c1
     try clear c2
     try clear p2
     try clear c3
     try clear c3b0
     try clear c4
     try clear c5
     try clear c6
     try clear c7
     try clear c8
     try clear c9
     try clear c10
     try clear c15
     try clear c17
     try clear c19
     try clear c21
     try clear c27
     try clear c28
     try clear c29
     try clear c30
     try clear c31
     try clear c35
     try clear c36
     try clear c37
     try clear c42
     try clear c43
     try clear c43b0
     try clear c43b1
     try clear c44
     try clear c45
     try clear c46
     try clear c48
     try clear c49
     try clear c52
     try clear c53
     try clear c54
     try clear c56
     try clear c57
     try clear c60
     try clear c61
     try clear c62
     try clear c64
     try clear c65
     try clear c68
     try clear c71
     try clear c79
     try clear c80
     try clear c81
     try clear c84
     try clear c84b0
     try clear c86
     try clear c87
     try clear c87b0
     try clear c87b1
     try clear c88
     try clear c89
     try clear c90
     try clear c92
     try clear c93
     try clear c96
     try clear c97
     try clear c98
     try clear c100
     try clear c101
     try clear c104
     try clear c105
     try clear c106
     try clear c108
     try clear c109
     try clear hcz102_0
     try clear hcz102_1
     try clear hcz102_2
     try clear hcz102_3
     try clear hcz107_0
     try clear hcz107_1
     try clear hcz107_2
     try clear hcz107_3
     try clear hcz110_0
     try clear hcz110_1
     try clear hcz110_2
     try clear hcz110_3
     try clear hcz13_0
     try clear hcz13_1
     try clear hcz13_2
     try clear hcz13_3
     try clear hcz15_0
     try clear hcz15_1
     try clear hcz15_2
     try clear hcz15_3
     try clear hcz22_0
     try clear hcz22_1
     try clear hcz22_2
     try clear hcz22_3
     try clear hcz25_0
     try clear hcz25_1
     try clear hcz25_2
     try clear hcz25_3
     try clear hcz30_0
     try clear hcz30_1
     try clear hcz30_2
     try clear hcz30_3
     try clear hcz38_0
     try clear hcz38_1
     try clear hcz38_2
     try clear hcz38_3
     try clear hcz47_0
     try clear hcz47_1
     try clear hcz47_2
     try clear hcz47_3
     try clear hcz50_0
     try clear hcz50_1
     try clear hcz50_2
     try clear hcz50_3
     try clear hcz55_0
     try clear hcz55_1
     try clear hcz55_2
     try clear hcz55_3
     try clear hcz58_0
     try clear hcz58_1
     try clear hcz58_2
     try clear hcz58_3
     try clear hcz5_0
     try clear hcz5_1
     try clear hcz5_2
     try clear hcz5_3
     try clear hcz63_0
     try clear hcz63_1
     try clear hcz63_2
     try clear hcz63_3
     try clear hcz66_0
     try clear hcz66_1
     try clear hcz66_2
     try clear hcz66_3
     try clear hcz82_0
     try clear hcz82_1
     try clear hcz82_2
     try clear hcz82_3
     try clear hcz91_0
     try clear hcz91_1
     try clear hcz91_2
     try clear hcz91_3
     try clear hcz94_0
     try clear hcz94_1
     try clear hcz94_2
     try clear hcz94_3
     try clear hcz99_0
     try clear hcz99_1
     try clear hcz99_2
     try clear hcz99_3
     try clear hfz102_0
     try clear hfz102_1
     try clear hfz102_2
     try clear hfz102_3
     try clear hfz107_0
     try clear hfz107_1
     try clear hfz107_2
     try clear hfz107_3
     try clear hfz110_0
     try clear hfz110_1
     try clear hfz110_2
     try clear hfz110_3
     try clear hfz13_0
     try clear hfz13_1
     try clear hfz13_2
     try clear hfz13_3
     try clear hfz15_0
     try clear hfz15_1
     try clear hfz15_2
     try clear hfz15_3
     try clear hfz22_0
     try clear hfz22_1
     try clear hfz22_2
     try clear hfz22_3
     try clear hfz25_0
     try clear hfz25_1
     try clear hfz25_2
     try clear hfz25_3
     try clear hfz30_0
     try clear hfz30_1
     try clear hfz30_2
     try clear hfz30_3
     try clear hfz38_0
     try clear hfz38_1
     try clear hfz38_2
     try clear hfz38_3
     try clear hfz47_0
     try clear hfz47_1
     try clear hfz47_2
     try clear hfz47_3
     try clear hfz50_0
     try clear hfz50_1
     try clear hfz50_2
     try clear hfz50_3
     try clear hfz55_0
     try clear hfz55_1
     try clear hfz55_2
     try clear hfz55_3
     try clear hfz58_0
     try clear hfz58_1
     try clear hfz58_2
     try clear hfz58_3
     try clear hfz5_0
     try clear hfz5_1
     try clear hfz5_2
     try clear hfz5_3
     try clear hfz63_0
     try clear hfz63_1
     try clear hfz63_2
     try clear hfz63_3
     try clear hfz66_0
     try clear hfz66_1
     try clear hfz66_2
     try clear hfz66_3
     try clear hfz82_0
     try clear hfz82_1
     try clear hfz82_2
     try clear hfz82_3
     try clear hfz91_0
     try clear hfz91_1
     try clear hfz91_2
     try clear hfz91_3
     try clear hfz94_0
     try clear hfz94_1
     try clear hfz94_2
     try clear hfz94_3
     try clear hfz99_0
     try clear hfz99_1
     try clear hfz99_2
     try clear hfz99_3
     try clear p2
     obtain ⟨kq, x76_72, rfl, HA, HJ72, HO_422001, HO_422002, HO_431001, HO_431002, HO_442001, HO_442002, BK401, BK421, BK430, BK441, HB⟩ := hcut
     have hl431001_72 := (Kd.R_reads' HO_431001.out).1
     rw [hl431001_72] at HO_431001
     (try simp only [hl431001_72])
     (try simp only [hl431001_72] at BK401)
     (try simp only [hl431001_72] at BK421)
     (try simp only [hl431001_72] at BK430)
     (try simp only [hl431001_72] at BK441)
     (try simp only [hl431001_72] at HO_422001)
     (try simp only [hl431001_72] at HO_422002)
     (try simp only [hl431001_72] at HO_431002)
     (try simp only [hl431001_72] at HO_442001)
     (try simp only [hl431001_72] at HO_442002)
     have hl431002_72 := (Kd.R_reads' HO_431002.out).1
     rw [hl431002_72] at HO_431002
     (try simp only [hl431002_72])
     (try simp only [hl431002_72] at BK401)
     (try simp only [hl431002_72] at BK421)
     (try simp only [hl431002_72] at BK430)
     (try simp only [hl431002_72] at BK441)
     (try simp only [hl431002_72] at HO_422001)
     (try simp only [hl431002_72] at HO_422002)
     (try simp only [hl431002_72] at HO_431001)
     (try simp only [hl431002_72] at HO_442001)
     (try simp only [hl431002_72] at HO_442002)
     cases kq with
     | zero => exact absurd HA.out (by simp [laws_FnExactBegin.j1])
     | succ kj72 =>
      have H := HA.out
      clear HA
      simp only [laws_FnExactBegin.j1] at H
      by_cases c112 : x76_72 = true
      ·
       subst c112
       have H1 : (some false) = some r := by rw [if_pos rfl] at H; exact H
       clear H
       have H := H1
       clear H1
       obtain rfl := Option.some.inj H
       go_wp2
       go_ret
       exact ⟨zq4, zq112⟩
      replace c112 := Bool.eq_false_iff.mpr c112
      subst c112
      have H1 : ((laws_markStore.f kj72 t431 t432 t435 t438 1).bind fun bt456 => ((laws_heldStore.f kj72 t431 bt456.2.1 bt456.2.2 t438 1).bind fun t459 => (if t459 < 0 then (some false) else (if t459 = bt456.1 then ((laws_toStore.f kj72 a0_0 l0_1 l0_2 a0_3).bind fun bt460 => ((impl_Begin.f kj72 bt460.1 bt460.2.1 bt460.2.2.1 bt460.2.2.2).bind fun bt468 => ((laws_eqStore.f kj72 bt468.1 bt468.2.1 bt468.2.2.1 bt468.2.2.2.1 t411 t412 t415 t418).bind fun t479 => (if t479 = true then (if bt468.2.2.2.2.1 = t419 then (laws_FnExactBegin.j2 kj72 bt456.1 (bt468.2.2.2.2.2 != t420) t431 bt456.2.1 bt456.2.2 t438) else (laws_FnExactBegin.j2 kj72 bt456.1 true t431 bt456.2.1 bt456.2.2 t438)) else (laws_FnExactBegin.j2 kj72 bt456.1 true t431 bt456.2.1 bt456.2.2 t438))))) else (some false))))) = some r := by rw [if_neg (show ¬ (false = true) by decide)] at H; exact H
      clear H
      have H := H1
      clear H1
      replace H := Option.bind_eq_some_iff.mp H
      obtain ⟨⟨t456, t457, t458⟩, A1130, H⟩ := H
      try dsimp only at H
      have A113 := Aside0.mk A1130
      clear A1130
      replace H := Option.bind_eq_some_iff.mp H
      obtain ⟨t459, A1140, H⟩ := H
      try dsimp only at H
      have A114 := Aside0.mk A1140
      clear A1140
      by_cases c115 : t459 < 0
      ·
       rw [if_pos c115] at H
       have c115b0 := decide_eq_true c115
       clear c115
       obtain rfl := Option.some.inj H
       have hnb116 := NB441_401.out
       have hnc116 := NB401_441.out
       have hnb117 := NB441_421.out
       have hnc117 := NB421_441.out
       have hnb118 := NB441_430.out
       have hnc118 := NB430_441.out
       obtain ⟨hcz119_0, hcz119_1, hcz119_2, hcz119_3, hfz119_0, hfz119_1, hfz119_2, hfz119_3⟩ := c4 (w := wc) BK441
       go_wp2_with (first | ((with_reducible refine gC 27 rfl ?_); refine gL 79 Try.func27 #[.agg #[.int .i64 t431, .slice Ao39 t432.length co39, .slice Ao40 t435.length co40, .int .i64 t438], .int .i64 1] ?_; (with_reducible refine (laws_markStore.calls kj72 t431 (fun k_ => some k_ = (.slice Ao39 t432.length co39 : Value).ownBlock) (.slice Ao39 t432.length co39) t432 (fun k_ => some k_ = (.slice Ao40 t435.length co40 : Value).ownBlock) (.slice Ao40 t435.length co40) t435 t438 1 t456 t457 t458 w _ ?_ ?_ ?_ A113.out).mono ?_); exact zq112; exact zq151; exact zq152; rintro e w120 ⟨rfl, hy0, hy1, hb, hkp⟩; refine ⟨_, rfl, ?_⟩; replace HO_422001 := Aside0.mk (Kd.R_mono (ok' := fun k_ => some k_ ≠ (.slice Ao31 t453.length co31 : Value).ownBlock ∧ some k_ ≠ (.slice Ao39 t432.length co39 : Value).ownBlock) (Kd.R_keptB ((Kd.R_apart' HO_422001.out (Kd.R_typed HO_442002.out) (by decide))) hkp (fun k_ hk_ hs_ => Or.elim hs_ (fun e_ => by first | exact hk_.1.2 e_ | exact hk_.1.1 e_ | exact hk_.1.1.1 e_ | exact hk_.1.1.2 e_ | exact hk_.1.2.1 e_ | exact hk_.1.2.2 e_ | exact hk_.2 e_ | simp_all) (fun e_ => by first | exact hk_.2 e_ | exact hk_.1.1 e_ | exact hk_.1.2 e_ | exact hk_.1.1.1 e_ | exact hk_.1.1.2 e_ | exact hk_.1.2.1 e_ | exact hk_.1.2.2 e_ | simp_all))) (fun k_ hk_ => by first | exact ⟨hk_.1.1.1, hk_.1.1.2⟩ | simp_all)); replace HO_422002 := Aside0.mk (Kd.R_mono (ok' := fun k_ => some k_ ≠ (.slice Ao32 t454.length co32 : Value).ownBlock ∧ some k_ ≠ (.slice Ao40 t435.length co40 : Value).ownBlock) (Kd.R_keptB ((Kd.R_apart' HO_422002.out (Kd.R_typed HO_442001.out) (by decide))) hkp (fun k_ hk_ hs_ => Or.elim hs_ (fun e_ => by first | exact hk_.2 e_ | exact hk_.1.1 e_ | exact hk_.1.2 e_ | exact hk_.1.1.1 e_ | exact hk_.1.1.2 e_ | exact hk_.1.2.1 e_ | exact hk_.1.2.2 e_ | simp_all) (fun e_ => by first | exact hk_.1.2 e_ | exact hk_.1.1 e_ | exact hk_.1.1.1 e_ | exact hk_.1.1.2 e_ | exact hk_.1.2.1 e_ | exact hk_.1.2.2 e_ | exact hk_.2 e_ | simp_all))) (fun k_ hk_ => by first | exact ⟨hk_.1.1.1, hk_.1.1.2⟩ | simp_all)); replace HO_431001 := Aside0.mk (Kd.R_mono (ok' := fun k_ => some k_ ≠ (.slice Ao23 t412.length co23 : Value).ownBlock ∧ some k_ ≠ (.slice Ao39 t432.length co39 : Value).ownBlock) (Kd.R_keptB ((Kd.R_apart' HO_431001.out (Kd.R_typed HO_442002.out) (by decide))) hkp (fun k_ hk_ hs_ => Or.elim hs_ (fun e_ => by first | exact hk_.1.2 e_ | exact hk_.1.1 e_ | exact hk_.1.1.1 e_ | exact hk_.1.1.2 e_ | exact hk_.1.2.1 e_ | exact hk_.1.2.2 e_ | exact hk_.2 e_ | simp_all) (fun e_ => by first | exact hk_.2 e_ | exact hk_.1.1 e_ | exact hk_.1.2 e_ | exact hk_.1.1.1 e_ | exact hk_.1.1.2 e_ | exact hk_.1.2.1 e_ | exact hk_.1.2.2 e_ | simp_all))) (fun k_ hk_ => by first | exact ⟨hk_.1.1.1, hk_.1.1.2⟩ | simp_all)); replace HO_431002 := Aside0.mk (Kd.R_mono (ok' := fun k_ => some k_ ≠ (.slice Ao24 t415.length co24 : Value).ownBlock ∧ some k_ ≠ (.slice Ao40 t435.length co40 : Value).ownBlock) (Kd.R_keptB ((Kd.R_apart' HO_431002.out (Kd.R_typed HO_442001.out) (by decide))) hkp (fun k_ hk_ hs_ => Or.elim hs_ (fun e_ => by first | exact hk_.2 e_ | exact hk_.1.1 e_ | exact hk_.1.2 e_ | exact hk_.1.1.1 e_ | exact hk_.1.1.2 e_ | exact hk_.1.2.1 e_ | exact hk_.1.2.2 e_ | simp_all) (fun e_ => by first | exact hk_.1.2 e_ | exact hk_.1.1 e_ | exact hk_.1.1.1 e_ | exact hk_.1.1.2 e_ | exact hk_.1.2.1 e_ | exact hk_.1.2.2 e_ | exact hk_.2 e_ | simp_all))) (fun k_ hk_ => by first | exact ⟨hk_.1.1.1, hk_.1.1.2⟩ | simp_all)); replace BK401 := Aside0.mk (blk_kept zq132 hkp (fun hs_ => Or.elim hs_ (fun e_ => (fun e_ => (Kd.R_ne HO_442001.out BK401.out (by decide)) e_) e_) (fun e_ => (fun e_ => (Kd.R_ne HO_442002.out BK401.out (by decide)) e_) e_))); replace BK421 := Aside0.mk (blk_kept zq133 hkp (fun hs_ => Or.elim hs_ (fun e_ => (fun e_ => (Kd.R_ne HO_442001.out BK421.out (by decide)) e_) e_) (fun e_ => (fun e_ => (Kd.R_ne HO_442002.out BK421.out (by decide)) e_) e_))); replace BK430 := Aside0.mk (blk_kept zq134 hkp (fun hs_ => Or.elim hs_ (fun e_ => (fun e_ => (Kd.R_ne HO_442001.out BK430.out (by decide)) e_) e_) (fun e_ => (fun e_ => (Kd.R_ne HO_442002.out BK430.out (by decide)) e_) e_))); replace BK441 := Aside0.mk (blk_kept zq135 hkp (fun hs_ => Or.elim hs_ (fun e_ => (fun e_ => (Kd.R_ne HO_442001.out BK441.out (by decide)) e_) e_) (fun e_ => (fun e_ => (Kd.R_ne HO_442002.out BK441.out (by decide)) e_) e_))); replace HO_442001 := Aside0.mk (Kd.R_reok rfl hy0 (fun k_ e_ => HO_442001.out.1 k_ e_)); replace HO_442002 := Aside0.mk (Kd.R_reok rfl hy1 (fun k_ e_ => HO_442002.out.1 k_ e_)); replace HB := Aside0.mk hb; clear hb; (try clear hkp); (try clear hy0); (try clear hy1); obtain ⟨hcz121_0, hcz121_1, hcz121_2, hcz121_3, hfz121_0, hfz121_1, hfz121_2, hfz121_3⟩ := c4 (w := w120) BK441) | ((with_reducible refine gC 32 rfl ?_); refine gL 82 Try.func32 #[.agg #[.int .i64 t431, .slice Ao39 t457.length co39, .slice Ao40 t458.length co40, .int .i64 t438], .int .i64 1] ?_ (hargs := by (try simp only [List.map_toArray, List.map_cons, List.map_nil]); first | done | (rw [show t457.length = t432.length from (Kd.R_reads' HO_442001.out).1.symm, show t458.length = t435.length from (Kd.R_reads' HO_442002.out).1.symm] <;> rfl) | rfl | (simp only [List.length_drop, List.length_take]; rfl)); (with_reducible refine (laws_heldStore.calls kj72 t431 _ _ t457 _ _ t458 t438 1 t459 _ ?_ ?_ ?_ ?_ A114.out).mono ?_); exact zq143; exact zq154; exact zq145; exact zq155; rintro e w122 ⟨rfl, hb⟩; refine ⟨_, rfl, ?_⟩; replace HO_422001 := rB zq120 hb; replace HO_422002 := rB zq121 hb; replace HO_431001 := rB zq122 hb; replace HO_431002 := rB zq123 hb; replace HO_442001 := rB zq124 hb; replace HO_442002 := rB zq125 hb; replace BK401 := bF BK401 zq74 hb; replace BK421 := bF BK421 zq87 hb; replace BK430 := bF BK430 zq95 hb; replace BK441 := bF BK441 zq119 hb; replace HB := sB zq112 hb; clear hb))
       go_ret
       exact ⟨zq4, zq112⟩
      rw [if_neg c115] at H
      have c115b0 := decide_eq_false c115
      clear c115
      by_cases c123 : t459 = t456
      ·
       rw [if_pos c123] at H
       have c123b0 : (t459 == t456) = true := beq_iff_eq.mpr c123
       have c123b1 : (t459 != t456) = false := bne_eq_false_iff_eq.mpr c123
       clear c123
       replace H := Option.bind_eq_some_iff.mp H
       obtain ⟨⟨t460, t461, t464, t467⟩, A1240, H⟩ := H
       try dsimp only at H
       have A124 := Aside0.mk A1240
       clear A1240
       replace H := Option.bind_eq_some_iff.mp H
       obtain ⟨⟨t468, t469, t472, t475, t476, t477⟩, A1250, H⟩ := H
       try dsimp only at H
       have A125 := Aside0.mk A1250
       clear A1250
       have HC126 := Aside0.mk H
       clear H
       have hnb127 := NB441_401.out
       have hnc127 := NB401_441.out
       have hnb128 := NB441_421.out
       have hnc128 := NB421_441.out
       have hnb129 := NB441_430.out
       have hnc129 := NB430_441.out
       obtain ⟨hcz130_0, hcz130_1, hcz130_2, hcz130_3, hfz130_0, hfz130_1, hfz130_2, hfz130_3⟩ := c4 (w := wc) BK441
       go_upto_region 25 with (first | ((with_reducible refine gC 27 rfl ?_); refine gL 79 Try.func27 #[.agg #[.int .i64 t431, .slice Ao39 t432.length co39, .slice Ao40 t435.length co40, .int .i64 t438], .int .i64 1] ?_; (with_reducible refine (laws_markStore.calls kj72 t431 (fun k_ => some k_ = (.slice Ao39 t432.length co39 : Value).ownBlock) (.slice Ao39 t432.length co39) t432 (fun k_ => some k_ = (.slice Ao40 t435.length co40 : Value).ownBlock) (.slice Ao40 t435.length co40) t435 t438 1 t456 t457 t458 w _ ?_ ?_ ?_ A113.out).mono ?_); exact zq112; exact zq151; exact zq152; rintro e w131 ⟨rfl, hy0, hy1, hb, hkp⟩; refine ⟨_, rfl, ?_⟩; replace HO_422001 := Aside0.mk (Kd.R_mono (ok' := fun k_ => some k_ ≠ (.slice Ao31 t453.length co31 : Value).ownBlock ∧ some k_ ≠ (.slice Ao39 t432.length co39 : Value).ownBlock) (Kd.R_keptB ((Kd.R_apart' HO_422001.out (Kd.R_typed HO_442002.out) (by decide))) hkp (fun k_ hk_ hs_ => Or.elim hs_ (fun e_ => by first | exact hk_.1.2 e_ | exact hk_.1.1 e_ | exact hk_.1.1.1 e_ | exact hk_.1.1.2 e_ | exact hk_.1.2.1 e_ | exact hk_.1.2.2 e_ | exact hk_.2 e_ | simp_all) (fun e_ => by first | exact hk_.2 e_ | exact hk_.1.1 e_ | exact hk_.1.2 e_ | exact hk_.1.1.1 e_ | exact hk_.1.1.2 e_ | exact hk_.1.2.1 e_ | exact hk_.1.2.2 e_ | simp_all))) (fun k_ hk_ => by first | exact ⟨hk_.1.1.1, hk_.1.1.2⟩ | simp_all)); replace HO_422002 := Aside0.mk (Kd.R_mono (ok' := fun k_ => some k_ ≠ (.slice Ao32 t454.length co32 : Value).ownBlock ∧ some k_ ≠ (.slice Ao40 t435.length co40 : Value).ownBlock) (Kd.R_keptB ((Kd.R_apart' HO_422002.out (Kd.R_typed HO_442001.out) (by decide))) hkp (fun k_ hk_ hs_ => Or.elim hs_ (fun e_ => by first | exact hk_.2 e_ | exact hk_.1.1 e_ | exact hk_.1.2 e_ | exact hk_.1.1.1 e_ | exact hk_.1.1.2 e_ | exact hk_.1.2.1 e_ | exact hk_.1.2.2 e_ | simp_all) (fun e_ => by first | exact hk_.1.2 e_ | exact hk_.1.1 e_ | exact hk_.1.1.1 e_ | exact hk_.1.1.2 e_ | exact hk_.1.2.1 e_ | exact hk_.1.2.2 e_ | exact hk_.2 e_ | simp_all))) (fun k_ hk_ => by first | exact ⟨hk_.1.1.1, hk_.1.1.2⟩ | simp_all)); replace HO_431001 := Aside0.mk (Kd.R_mono (ok' := fun k_ => some k_ ≠ (.slice Ao23 t412.length co23 : Value).ownBlock ∧ some k_ ≠ (.slice Ao39 t432.length co39 : Value).ownBlock) (Kd.R_keptB ((Kd.R_apart' HO_431001.out (Kd.R_typed HO_442002.out) (by decide))) hkp (fun k_ hk_ hs_ => Or.elim hs_ (fun e_ => by first | exact hk_.1.2 e_ | exact hk_.1.1 e_ | exact hk_.1.1.1 e_ | exact hk_.1.1.2 e_ | exact hk_.1.2.1 e_ | exact hk_.1.2.2 e_ | exact hk_.2 e_ | simp_all) (fun e_ => by first | exact hk_.2 e_ | exact hk_.1.1 e_ | exact hk_.1.2 e_ | exact hk_.1.1.1 e_ | exact hk_.1.1.2 e_ | exact hk_.1.2.1 e_ | exact hk_.1.2.2 e_ | simp_all))) (fun k_ hk_ => by first | exact ⟨hk_.1.1.1, hk_.1.1.2⟩ | simp_all)); replace HO_431002 := Aside0.mk (Kd.R_mono (ok' := fun k_ => some k_ ≠ (.slice Ao24 t415.length co24 : Value).ownBlock ∧ some k_ ≠ (.slice Ao40 t435.length co40 : Value).ownBlock) (Kd.R_keptB ((Kd.R_apart' HO_431002.out (Kd.R_typed HO_442001.out) (by decide))) hkp (fun k_ hk_ hs_ => Or.elim hs_ (fun e_ => by first | exact hk_.2 e_ | exact hk_.1.1 e_ | exact hk_.1.2 e_ | exact hk_.1.1.1 e_ | exact hk_.1.1.2 e_ | exact hk_.1.2.1 e_ | exact hk_.1.2.2 e_ | simp_all) (fun e_ => by first | exact hk_.1.2 e_ | exact hk_.1.1 e_ | exact hk_.1.1.1 e_ | exact hk_.1.1.2 e_ | exact hk_.1.2.1 e_ | exact hk_.1.2.2 e_ | exact hk_.2 e_ | simp_all))) (fun k_ hk_ => by first | exact ⟨hk_.1.1.1, hk_.1.1.2⟩ | simp_all)); replace BK401 := Aside0.mk (blk_kept zq132 hkp (fun hs_ => Or.elim hs_ (fun e_ => (fun e_ => (Kd.R_ne HO_442001.out BK401.out (by decide)) e_) e_) (fun e_ => (fun e_ => (Kd.R_ne HO_442002.out BK401.out (by decide)) e_) e_))); replace BK421 := Aside0.mk (blk_kept zq133 hkp (fun hs_ => Or.elim hs_ (fun e_ => (fun e_ => (Kd.R_ne HO_442001.out BK421.out (by decide)) e_) e_) (fun e_ => (fun e_ => (Kd.R_ne HO_442002.out BK421.out (by decide)) e_) e_))); replace BK430 := Aside0.mk (blk_kept zq134 hkp (fun hs_ => Or.elim hs_ (fun e_ => (fun e_ => (Kd.R_ne HO_442001.out BK430.out (by decide)) e_) e_) (fun e_ => (fun e_ => (Kd.R_ne HO_442002.out BK430.out (by decide)) e_) e_))); replace BK441 := Aside0.mk (blk_kept zq135 hkp (fun hs_ => Or.elim hs_ (fun e_ => (fun e_ => (Kd.R_ne HO_442001.out BK441.out (by decide)) e_) e_) (fun e_ => (fun e_ => (Kd.R_ne HO_442002.out BK441.out (by decide)) e_) e_))); replace HO_442001 := Aside0.mk (Kd.R_reok rfl hy0 (fun k_ e_ => HO_442001.out.1 k_ e_)); replace HO_442002 := Aside0.mk (Kd.R_reok rfl hy1 (fun k_ e_ => HO_442002.out.1 k_ e_)); replace HB := Aside0.mk hb; clear hb; (try clear hkp); (try clear hy0); (try clear hy1); obtain ⟨hcz132_0, hcz132_1, hcz132_2, hcz132_3, hfz132_0, hfz132_1, hfz132_2, hfz132_3⟩ := c4 (w := w131) BK441) | ((with_reducible refine gC 32 rfl ?_); refine gL 82 Try.func32 #[.agg #[.int .i64 t431, .slice Ao39 t457.length co39, .slice Ao40 t458.length co40, .int .i64 t438], .int .i64 1] ?_ (hargs := by (try simp only [List.map_toArray, List.map_cons, List.map_nil]); first | done | (rw [show t457.length = t432.length from (Kd.R_reads' HO_442001.out).1.symm, show t458.length = t435.length from (Kd.R_reads' HO_442002.out).1.symm] <;> rfl) | rfl | (simp only [List.length_drop, List.length_take]; rfl)); (with_reducible refine (laws_heldStore.calls kj72 t431 _ _ t457 _ _ t458 t438 1 t459 _ ?_ ?_ ?_ ?_ A114.out).mono ?_); exact zq143; exact zq154; exact zq145; exact zq155; rintro e w133 ⟨rfl, hb⟩; refine ⟨_, rfl, ?_⟩; replace HO_422001 := rB zq120 hb; replace HO_422002 := rB zq121 hb; replace HO_431001 := rB zq122 hb; replace HO_431002 := rB zq123 hb; replace HO_442001 := rB zq124 hb; replace HO_442002 := rB zq125 hb; replace BK401 := bF BK401 zq74 hb; replace BK421 := bF BK421 zq87 hb; replace BK430 := bF BK430 zq95 hb; replace BK441 := bF BK441 zq119 hb; replace HB := sB zq112 hb; clear hb; have hnb134 := NB401_421.out; have hnc134 := NB421_401.out; have hnb135 := NB401_430.out; have hnc135 := NB430_401.out; obtain ⟨hcz136_0, hcz136_1, hcz136_2, hcz136_3, hfz136_0, hfz136_1, hfz136_2, hfz136_3⟩ := c4 (w := w133) BK401) | ((with_reducible refine gC 17 rfl ?_); refine gL 90 Try.func17 #[.agg #[.int .i64 a0_0, .slice A0_1 l0_1.length c0_1, .slice A0_2 l0_2.length c0_2, .int .i64 a0_3]] ?_; (with_reducible refine (laws_toStore.calls kj72 a0_0 _ _ l0_1 _ _ l0_2 a0_3 t460 t461 t464 t467 _ ?_ ?_ ?_ ?_ A124.out).mono ?_); exact zq11; exact zq12; exact zq15; exact zq16; rintro e w137 ⟨v462, v465, rfl, ho0, ho1, hb⟩; refine ⟨_, rfl, ?_⟩; have HO463 := Aside0.mk (Kd.R_lower (Kd.R_new' (Kd.R_new' (Kd.R_new' ho0 (Kd.R_lt zq120)) (Kd.R_lt zq122)) (Kd.R_lt zq124)) (below_size zq112)); replace HO_422001 := Aside0.mk (Kd.R_elder' zq120 (Kd.R_base ho0) hb); replace HO_431001 := Aside0.mk (Kd.R_elder' zq122 (Kd.R_base ho0) hb); replace HO_442001 := Aside0.mk (Kd.R_elder' zq124 (Kd.R_base ho0) hb); have HO466 := Aside0.mk (Kd.R_lower (Kd.R_new' (Kd.R_new' (Kd.R_new' ho1 (Kd.R_lt zq121)) (Kd.R_lt zq123)) (Kd.R_lt zq125)) (below_size zq112)); replace HO_422002 := Aside0.mk (Kd.R_elder' zq121 (Kd.R_base ho1) hb); replace HO_431002 := Aside0.mk (Kd.R_elder' zq123 (Kd.R_base ho1) hb); replace HO_442002 := Aside0.mk (Kd.R_elder' zq125 (Kd.R_base ho1) hb); replace BK401 := bF BK401 zq74 hb; replace BK421 := bF BK421 zq87 hb; replace BK430 := bF BK430 zq95 hb; replace BK441 := bF BK441 zq119 hb; replace HB := sB zq112 hb; clear hb; (try clear ho0); (try clear ho1); obtain ⟨Ao138, co138, eo138⟩ := Kd.R_slice HO463.out; subst eo138; obtain ⟨Ao139, co139, eo139⟩ := Kd.R_slice HO466.out; subst eo139) | ((with_reducible refine gC 31 rfl ?_); refine gL 91 Try.func31 #[.agg #[.int .i64 t460, .slice Ao138 t461.length co138, .slice Ao139 t464.length co139, .int .i64 t467]] ?_; (with_reducible refine (impl_Begin.calls kj72 t460 _ _ t461 _ _ t464 t467 t468 t469 t472 t475 t476 t477 _ ?side1 ?_ ?side3 ?_ A125.out).mono ?_); (case side1 => repeat (first | exact (Kd.R_reads' HO463.out).2.2 | (with_reducible refine Kd.C_alloc ?_ _) | (with_reducible refine Kd.C_drewN ?_ _) | (with_reducible refine Kd.C_drew ?_))); exact (Kd.R_reads' HO463.out).2.1; (case side3 => repeat (first | exact (Kd.R_reads' HO466.out).2.2 | (with_reducible refine Kd.C_alloc ?_ _) | (with_reducible refine Kd.C_drewN ?_ _) | (with_reducible refine Kd.C_drew ?_))); exact (Kd.R_reads' HO466.out).2.1; rintro e w140 ⟨v470, v473, rfl, ho0, ho1, hb⟩; refine ⟨_, rfl, ?_⟩; have HO471 := Aside0.mk (Kd.R_lower (Kd.R_new' (Kd.R_new' (Kd.R_new' (Kd.R_new' ho0 (Kd.R_lt zq120)) (Kd.R_lt zq122)) (Kd.R_lt zq124)) (Kd.R_lt zq156)) (below_size zq112)); replace HO_422001 := Aside0.mk (Kd.R_elder' zq120 (Kd.R_base ho0) hb); replace HO_431001 := Aside0.mk (Kd.R_elder' zq122 (Kd.R_base ho0) hb); replace HO_442001 := Aside0.mk (Kd.R_elder' zq124 (Kd.R_base ho0) hb); replace HO463 := Aside0.mk (Kd.R_elder' zq156 (Kd.R_base ho0) hb); have HO474 := Aside0.mk (Kd.R_lower (Kd.R_new' (Kd.R_new' (Kd.R_new' (Kd.R_new' ho1 (Kd.R_lt zq121)) (Kd.R_lt zq123)) (Kd.R_lt zq125)) (Kd.R_lt zq157)) (below_size zq112)); replace HO_422002 := Aside0.mk (Kd.R_elder' zq121 (Kd.R_base ho1) hb); replace HO_431002 := Aside0.mk (Kd.R_elder' zq123 (Kd.R_base ho1) hb); replace HO_442002 := Aside0.mk (Kd.R_elder' zq125 (Kd.R_base ho1) hb); replace HO466 := Aside0.mk (Kd.R_elder' zq157 (Kd.R_base ho1) hb); replace BK401 := bF BK401 zq74 hb; replace BK421 := bF BK421 zq87 hb; replace BK430 := bF BK430 zq95 hb; replace BK441 := bF BK441 zq119 hb; replace HB := sB zq112 hb; clear hb; (try clear ho0); (try clear ho1)) | ((with_reducible refine gate_dst (N := 14) rfl ?_); refine box_event ?hg (N := 14) ?hd (cs := #[.int .i64 0, .slice none 0 0, .slice none 0 0, .int .i64 0]) (t := 31) ?hr ?_; (case hd => rfl); (case hg => rfl); (case hr => exact zq2); intro gb478 hg w141 hbox hb; replace HO_422001 := rB zq120 hb; replace HO_422002 := rB zq121 hb; replace HO_431001 := rB zq122 hb; replace HO_431002 := rB zq123 hb; replace HO_442001 := rB zq124 hb; replace HO_442002 := rB zq125 hb; replace HO463 := rB zq156 hb; replace HO466 := rB zq157 hb; replace HO471 := rB (by (with_reducible repeat (first | apply Kd.R_alloc | apply Kd.R_drewN | apply Kd.R_drew)); exact HO471.out) hb; replace HO474 := rB (by (with_reducible repeat (first | apply Kd.R_alloc | apply Kd.R_drewN | apply Kd.R_drew)); exact HO474.out) hb; have BK478 := Aside0.mk hbox; have GW478 := Aside0.mk (by rw [hg]; exact (below_size zq112) : w.heap.size ≤ gb478); have GE478 := Aside0.mk (by rw [hg]; exact (below_size zq112) : w.heap.size ≤ gb478); replace HB := sB zq112 hb; have NB401_478 := Aside0.mk (zq285 : gb401 ≠ gb478); have NB478_401 := Aside0.mk (zq286 : gb478 ≠ gb401); replace BK401 := bF BK401 zq74 hb; have NB421_478 := Aside0.mk (zq287 : gb421 ≠ gb478); have NB478_421 := Aside0.mk (zq288 : gb478 ≠ gb421); replace BK421 := bF BK421 zq87 hb; have NB430_478 := Aside0.mk (by rw [hg]; exact Nat.ne_of_lt (blk_lt (g := gb430) (o := .cells #[.int .i64 t422, .slice Ao31 t453.length co31, .slice Ao32 t454.length co32, .int .i64 t429] 31 (0, 0)) zq95) : gb430 ≠ gb478); have NB478_430 := Aside0.mk (by rw [hg]; exact Nat.ne_of_gt (blk_lt (g := gb430) (o := .cells #[.int .i64 t422, .slice Ao31 t453.length co31, .slice Ao32 t454.length co32, .int .i64 t429] 31 (0, 0)) zq95) : gb478 ≠ gb430); replace BK430 := bF BK430 zq95 hb; have NB441_478 := Aside0.mk (by rw [hg]; exact Nat.ne_of_lt (blk_lt (g := gb441) (o := .cells #[.int .i64 t431, .slice Ao39 t432.length co39, .slice Ao40 t435.length co40, .int .i64 t438] 31 (0, 0)) zq119) : gb441 ≠ gb478); have NB478_441 := Aside0.mk (by rw [hg]; exact Nat.ne_of_gt (blk_lt (g := gb441) (o := .cells #[.int .i64 t431, .slice Ao39 t432.length co39, .slice Ao40 t435.length co40, .int .i64 t438] 31 (0, 0)) zq119) : gb478 ≠ gb441); replace BK441 := bF BK441 zq119 hb; clear hb hbox hg; have hnb142 := NB478_401.out; have hnc142 := NB401_478.out; have hnb143 := NB478_421.out; have hnc143 := NB421_478.out; have hnb144 := NB478_430.out; have hnc144 := NB430_478.out; have hnb145 := NB478_441.out; have hnc145 := NB441_478.out; obtain ⟨hcz146_0, hcz146_1, hcz146_2, hcz146_3, hfz146_0, hfz146_1, hfz146_2, hfz146_3⟩ := c4 (w := w141) BK478; obtain ⟨Ao147, co147, eo147⟩ := Kd.R_slice HO471.out; subst eo147; obtain ⟨Ao148, co148, eo148⟩ := Kd.R_slice HO474.out; subst eo148))
       (try simp only [Act.put, List.setIfInBounds_toArray, List.set_cons_zero, List.set_cons_succ])
       go_cut [108] (fun v108 wc => ∃ (kq : Nat) (x108_125 : Bool), v108 = .bool x108_125 ∧ Aside0 (laws_FnExactBegin.j2 kq t456 x108_125 t431 t457 t458 t438 = some r) ∧ Aside0 (kq ≤ kj72) ∧ Aside0 (Kd.R k66 66 wc w.heap.size (fun k_ => some k_ ≠ ((.slice Ao31 t453.length co31) : Value).ownBlock ∧ some k_ ≠ ((.slice Ao39 t432.length co39) : Value).ownBlock ∧ some k_ ≠ ((.slice Ao147 t469.length co147) : Value).ownBlock) (.slice Ao23 t412.length co23) t412) ∧ Aside0 (Kd.R k68 68 wc w.heap.size (fun k_ => some k_ ≠ ((.slice Ao32 t454.length co32) : Value).ownBlock ∧ some k_ ≠ ((.slice Ao40 t435.length co40) : Value).ownBlock ∧ some k_ ≠ ((.slice Ao148 t472.length co148) : Value).ownBlock) (.slice Ao24 t415.length co24) t415) ∧ Aside0 (Kd.R k66 66 wc w.heap.size (fun k_ => some k_ ≠ ((.slice Ao23 t412.length co23) : Value).ownBlock ∧ some k_ ≠ ((.slice Ao39 t432.length co39) : Value).ownBlock ∧ some k_ ≠ ((.slice Ao147 t469.length co147) : Value).ownBlock) (.slice Ao31 t453.length co31) t453) ∧ Aside0 (Kd.R k68 68 wc w.heap.size (fun k_ => some k_ ≠ ((.slice Ao24 t415.length co24) : Value).ownBlock ∧ some k_ ≠ ((.slice Ao40 t435.length co40) : Value).ownBlock ∧ some k_ ≠ ((.slice Ao148 t472.length co148) : Value).ownBlock) (.slice Ao32 t454.length co32) t454) ∧ Aside0 (Kd.R k66 66 wc w.heap.size (fun k_ => some k_ ≠ ((.slice Ao23 t412.length co23) : Value).ownBlock ∧ some k_ ≠ ((.slice Ao31 t453.length co31) : Value).ownBlock ∧ some k_ ≠ ((.slice Ao147 t469.length co147) : Value).ownBlock) (.slice Ao39 t432.length co39) t457) ∧ Aside0 (Kd.R k68 68 wc w.heap.size (fun k_ => some k_ ≠ ((.slice Ao24 t415.length co24) : Value).ownBlock ∧ some k_ ≠ ((.slice Ao32 t454.length co32) : Value).ownBlock ∧ some k_ ≠ ((.slice Ao148 t472.length co148) : Value).ownBlock) (.slice Ao40 t435.length co40) t458) ∧ Aside0 (Kd.R k66 66 wc w.heap.size (fun k_ => some k_ ≠ ((.slice Ao23 t412.length co23) : Value).ownBlock ∧ some k_ ≠ ((.slice Ao31 t453.length co31) : Value).ownBlock ∧ some k_ ≠ ((.slice Ao39 t432.length co39) : Value).ownBlock) (.slice Ao147 t469.length co147) t469) ∧ Aside0 (Kd.R k68 68 wc w.heap.size (fun k_ => some k_ ≠ ((.slice Ao24 t415.length co24) : Value).ownBlock ∧ some k_ ≠ ((.slice Ao32 t454.length co32) : Value).ownBlock ∧ some k_ ≠ ((.slice Ao40 t435.length co40) : Value).ownBlock) (.slice Ao148 t472.length co148) t472) ∧ Aside0 (wc.heap[gb401]? = some (.cells #[.int .i64 a0_0, (.slice A0_1 l0_1.length c0_1), (.slice A0_2 l0_2.length c0_2), .int .i64 a0_3] 25 (0, 0))) ∧ Aside0 (wc.heap[gb421]? = some (.cells #[.int .i64 t411, (.slice Ao23 t412.length co23), (.slice Ao24 t415.length co24), .int .i64 t418] 31 (0, 0))) ∧ Aside0 (wc.heap[gb430]? = some (.cells #[.int .i64 t422, (.slice Ao31 t453.length co31), (.slice Ao32 t454.length co32), .int .i64 t429] 31 (0, 0))) ∧ Aside0 (wc.heap[gb441]? = some (.cells #[.int .i64 t431, (.slice Ao39 t432.length co39), (.slice Ao40 t435.length co40), .int .i64 t438] 31 (0, 0))) ∧ Aside0 (wc.heap[gb478]? = some (.cells #[.int .i64 t468, (.slice Ao147 t469.length co147), (.slice Ao148 t472.length co148), .int .i64 t475] 31 (0, 0))) ∧ Aside0 (Below w.heap.size w wc))
       case first =>
        have H := HC126.out
        clear HC126
        replace H := Option.bind_eq_some_iff.mp H
        obtain ⟨t479, A1490, H⟩ := H
        try dsimp only at H
        have A149 := Aside0.mk A1490
        clear A1490
        by_cases c150 : t479 = true
        ·
         subst c150
         have H1 : (if t476 = t419 then (laws_FnExactBegin.j2 kj72 t456 (t477 != t420) t431 t457 t458 t438) else (laws_FnExactBegin.j2 kj72 t456 true t431 t457 t458 t438)) = some r := by rw [if_pos rfl] at H; exact H
         clear H
         have H := H1
         clear H1
         by_cases c151 : t476 = t419
         ·
          rw [if_pos c151] at H
          have c151b0 : (t476 == t419) = true := beq_iff_eq.mpr c151
          have c151b1 : (t476 != t419) = false := bne_eq_false_iff_eq.mpr c151
          clear c151
          (first | rw [c151b0] | (simp only [i64_w, i32_w]; rw [c151b0]) | skip)
          have H' := Aside0.mk H
          clear H
          have hnb152 := NB478_401.out
          have hnc152 := NB401_478.out
          have hnb153 := NB478_421.out
          have hnc153 := NB421_478.out
          have hnb154 := NB478_430.out
          have hnc154 := NB430_478.out
          have hnb155 := NB478_441.out
          have hnc155 := NB441_478.out
          obtain ⟨hcz156_0, hcz156_1, hcz156_2, hcz156_3, hfz156_0, hfz156_1, hfz156_2, hfz156_3⟩ := c4 (w := w141) BK478
          have hnb157 := NB421_401.out
          have hnc157 := NB401_421.out
          have hnb158 := NB421_430.out
          have hnc158 := NB430_421.out
          have hnb159 := NB421_441.out
          have hnc159 := NB441_421.out
          obtain ⟨hcz160_0, hcz160_1, hcz160_2, hcz160_3, hfz160_0, hfz160_1, hfz160_2, hfz160_3⟩ := c4 (w := w141) BK421
          go_wp2_with (first | ((with_reducible refine gC 19 rfl ?_); refine gL 97 Try.func19 #[.agg #[.int .i64 t468, .slice Ao147 t469.length co147, .slice Ao148 t472.length co148, .int .i64 t475], .agg #[.int .i64 t411, .slice Ao23 t412.length co23, .slice Ao24 t415.length co24, .int .i64 t418]] ?_; (with_reducible refine (laws_eqStore.calls kj72 t468 _ _ t469 _ _ t472 t475 t411 _ _ t412 _ _ t415 t418 true _ ?_ ?_ ?_ ?_ ?_ ?_ ?_ ?_ A149.out).mono ?_); exact zq293; exact zq159; exact zq294; exact zq161; exact zq295; exact zq148; exact zq296; exact zq150; rintro e w161 ⟨rfl, hb⟩; refine ⟨_, rfl, ?_⟩; replace HO_422001 := rB zq162 hb; replace HO_422002 := rB zq163 hb; replace HO_431001 := rB zq164 hb; replace HO_431002 := rB zq165 hb; replace HO_442001 := rB zq166 hb; replace HO_442002 := rB zq167 hb; replace HO463 := rB zq168 hb; replace HO466 := rB zq169 hb; replace HO471 := rB zq158 hb; replace HO474 := rB zq160 hb; replace BK401 := bF BK401 zq170 hb; replace BK421 := bF BK421 zq171 hb; replace BK430 := bF BK430 zq172 hb; replace BK441 := bF BK441 zq173 hb; replace BK478 := bB (g := gb478) (o := .cells #[.int .i64 t468, .slice Ao147 t469.length co147, .slice Ao148 t472.length co148, .int .i64 t475] 31 (0, 0)) zq174 hb; replace HB := sB zq175 hb; clear hb))
          go_meet
          case rel => exact ⟨_, ((t477 != t420)), zq6, H', ⟨zq176⟩, ⟨zq177⟩, ⟨zq178⟩, ⟨zq179⟩, ⟨zq180⟩, ⟨zq181⟩, ⟨zq182⟩, ⟨zq183⟩, ⟨zq184⟩, ⟨zq185⟩, ⟨zq186⟩, ⟨zq187⟩, ⟨zq188⟩, ⟨zq189⟩, ⟨zq175⟩⟩
         rw [if_neg c151] at H
         have c151b0 : (t476 == t419) = false := beq_eq_false_iff_ne.mpr c151
         have c151b1 : (t476 != t419) = true := bne_iff_ne.mpr c151
         (first | rw [c151b0] | (simp only [i64_w, i32_w]; rw [c151b0]) | skip)
         have H' := Aside0.mk H
         clear H
         have hnb162 := NB478_401.out
         have hnc162 := NB401_478.out
         have hnb163 := NB478_421.out
         have hnc163 := NB421_478.out
         have hnb164 := NB478_430.out
         have hnc164 := NB430_478.out
         have hnb165 := NB478_441.out
         have hnc165 := NB441_478.out
         obtain ⟨hcz166_0, hcz166_1, hcz166_2, hcz166_3, hfz166_0, hfz166_1, hfz166_2, hfz166_3⟩ := c4 (w := w141) BK478
         have hnb167 := NB421_401.out
         have hnc167 := NB401_421.out
         have hnb168 := NB421_430.out
         have hnc168 := NB430_421.out
         have hnb169 := NB421_441.out
         have hnc169 := NB441_421.out
         obtain ⟨hcz170_0, hcz170_1, hcz170_2, hcz170_3, hfz170_0, hfz170_1, hfz170_2, hfz170_3⟩ := c4 (w := w141) BK421
         go_wp2_with (first | ((with_reducible refine gC 19 rfl ?_); refine gL 97 Try.func19 #[.agg #[.int .i64 t468, .slice Ao147 t469.length co147, .slice Ao148 t472.length co148, .int .i64 t475], .agg #[.int .i64 t411, .slice Ao23 t412.length co23, .slice Ao24 t415.length co24, .int .i64 t418]] ?_; (with_reducible refine (laws_eqStore.calls kj72 t468 _ _ t469 _ _ t472 t475 t411 _ _ t412 _ _ t415 t418 true _ ?_ ?_ ?_ ?_ ?_ ?_ ?_ ?_ A149.out).mono ?_); exact zq293; exact zq159; exact zq294; exact zq161; exact zq295; exact zq148; exact zq296; exact zq150; rintro e w171 ⟨rfl, hb⟩; refine ⟨_, rfl, ?_⟩; replace HO_422001 := rB zq162 hb; replace HO_422002 := rB zq163 hb; replace HO_431001 := rB zq164 hb; replace HO_431002 := rB zq165 hb; replace HO_442001 := rB zq166 hb; replace HO_442002 := rB zq167 hb; replace HO463 := rB zq168 hb; replace HO466 := rB zq169 hb; replace HO471 := rB zq158 hb; replace HO474 := rB zq160 hb; replace BK401 := bF BK401 zq170 hb; replace BK421 := bF BK421 zq171 hb; replace BK430 := bF BK430 zq172 hb; replace BK441 := bF BK441 zq173 hb; replace BK478 := bB (g := gb478) (o := .cells #[.int .i64 t468, .slice Ao147 t469.length co147, .slice Ao148 t472.length co148, .int .i64 t475] 31 (0, 0)) zq174 hb; replace HB := sB zq175 hb; clear hb))
         go_meet
         case rel => exact ⟨_, (true), zq6, H', ⟨zq176⟩, ⟨zq177⟩, ⟨zq178⟩, ⟨zq179⟩, ⟨zq180⟩, ⟨zq181⟩, ⟨zq182⟩, ⟨zq183⟩, ⟨zq184⟩, ⟨zq185⟩, ⟨zq186⟩, ⟨zq187⟩, ⟨zq188⟩, ⟨zq189⟩, ⟨zq175⟩⟩
        replace c150 := Bool.eq_false_iff.mpr c150
        subst c150
        have H1 : (laws_FnExactBegin.j2 kj72 t456 true t431 t457 t458 t438) = some r := by rw [if_neg (show ¬ (false = true) by decide)] at H; exact H
        clear H
        have H := H1
        clear H1
        have H' := Aside0.mk H
        clear H
        have hnb172 := NB478_401.out
        have hnc172 := NB401_478.out
        have hnb173 := NB478_421.out
        have hnc173 := NB421_478.out
        have hnb174 := NB478_430.out
        have hnc174 := NB430_478.out
        have hnb175 := NB478_441.out
        have hnc175 := NB441_478.out
        obtain ⟨hcz176_0, hcz176_1, hcz176_2, hcz176_3, hfz176_0, hfz176_1, hfz176_2, hfz176_3⟩ := c4 (w := w141) BK478
        have hnb177 := NB421_401.out
        have hnc177 := NB401_421.out
        have hnb178 := NB421_430.out
        have hnc178 := NB430_421.out
        have hnb179 := NB421_441.out
        have hnc179 := NB441_421.out
        obtain ⟨hcz180_0, hcz180_1, hcz180_2, hcz180_3, hfz180_0, hfz180_1, hfz180_2, hfz180_3⟩ := c4 (w := w141) BK421
        go_wp2_with (first | ((with_reducible refine gC 19 rfl ?_); refine gL 97 Try.func19 #[.agg #[.int .i64 t468, .slice Ao147 t469.length co147, .slice Ao148 t472.length co148, .int .i64 t475], .agg #[.int .i64 t411, .slice Ao23 t412.length co23, .slice Ao24 t415.length co24, .int .i64 t418]] ?_; (with_reducible refine (laws_eqStore.calls kj72 t468 _ _ t469 _ _ t472 t475 t411 _ _ t412 _ _ t415 t418 false _ ?_ ?_ ?_ ?_ ?_ ?_ ?_ ?_ A149.out).mono ?_); exact zq293; exact zq159; exact zq294; exact zq161; exact zq295; exact zq148; exact zq296; exact zq150; rintro e w181 ⟨rfl, hb⟩; refine ⟨_, rfl, ?_⟩; replace HO_422001 := rB zq162 hb; replace HO_422002 := rB zq163 hb; replace HO_431001 := rB zq164 hb; replace HO_431002 := rB zq165 hb; replace HO_442001 := rB zq166 hb; replace HO_442002 := rB zq167 hb; replace HO463 := rB zq168 hb; replace HO466 := rB zq169 hb; replace HO471 := rB zq158 hb; replace HO474 := rB zq160 hb; replace BK401 := bF BK401 zq170 hb; replace BK421 := bF BK421 zq171 hb; replace BK430 := bF BK430 zq172 hb; replace BK441 := bF BK441 zq173 hb; replace BK478 := bB (g := gb478) (o := .cells #[.int .i64 t468, .slice Ao147 t469.length co147, .slice Ao148 t472.length co148, .int .i64 t475] 31 (0, 0)) zq174 hb; replace HB := sB zq175 hb; clear hb))
        go_meet
        case rel => exact ⟨_, (true), zq6, H', ⟨zq176⟩, ⟨zq177⟩, ⟨zq178⟩, ⟨zq179⟩, ⟨zq180⟩, ⟨zq181⟩, ⟨zq182⟩, ⟨zq183⟩, ⟨zq184⟩, ⟨zq185⟩, ⟨zq186⟩, ⟨zq187⟩, ⟨zq188⟩, ⟨zq189⟩, ⟨zq175⟩⟩
       case rest =>
        clear HC126
        try clear c1
        try clear c2
        try clear p2
        try clear c3
        try clear c3b0
        try clear c4
        try clear c5
        try clear c6
        try clear c7
        try clear c8
        try clear c9
        try clear c10
        try clear c11
        try clear c12
        try clear c13
        try clear c14
        try clear c15
        try clear c16
        try clear c17
        try clear c19
        try clear c21
        try clear c27
        try clear c28
        try clear c29
        try clear c30
        try clear c31
        try clear c32
        try clear c35
        try clear c36
        try clear c37
        try clear c42
        try clear c43
        try clear c43b0
        try clear c43b1
        try clear c44
        try clear c45
        try clear c46
        try clear c48
        try clear c49
        try clear c52
        try clear c53
        try clear c54
        try clear c56
        try clear c57
        try clear c60
        try clear c61
        try clear c62
        try clear c64
        try clear c65
        try clear c68
        try clear c71
        try clear c79
        try clear c80
        try clear c81
        try clear c84
        try clear c84b0
        try clear c86
        try clear c87
        try clear c87b0
        try clear c87b1
        try clear c88
        try clear c89
        try clear c90
        try clear c92
        try clear c93
        try clear c96
        try clear c97
        try clear c98
        try clear c100
        try clear c101
        try clear c104
        try clear c105
        try clear c106
        try clear c108
        try clear c109
        try clear c112
        try clear c115
        try clear c115b0
        try clear c116
        try clear c117
        try clear c118
        try clear c123
        try clear c123b0
        try clear c123b1
        try clear c127
        try clear c128
        try clear c129
        try clear c134
        try clear c135
        try clear c142
        try clear c143
        try clear c144
        try clear c145
        try clear c150
        try clear c151
        try clear c151b0
        try clear c151b1
        try clear c152
        try clear c153
        try clear c154
        try clear c155
        try clear c157
        try clear c158
        try clear c159
        try clear c162
        try clear c163
        try clear c164
        try clear c165
        try clear c167
        try clear c168
        try clear c169
        try clear c172
        try clear c173
        try clear c174
        try clear c175
        try clear c177
        try clear c178
        try clear c179
        try clear hcz102_0
        try clear hcz102_1
        try clear hcz102_2
        try clear hcz102_3
        try clear hcz107_0
        try clear hcz107_1
        try clear hcz107_2
        try clear hcz107_3
        try clear hcz110_0
        try clear hcz110_1
        try clear hcz110_2
        try clear hcz110_3
        try clear hcz119_0
        try clear hcz119_1
        try clear hcz119_2
        try clear hcz119_3
        try clear hcz121_0
        try clear hcz121_1
        try clear hcz121_2
        try clear hcz121_3
        try clear hcz130_0
        try clear hcz130_1
        try clear hcz130_2
        try clear hcz130_3
        try clear hcz132_0
        try clear hcz132_1
        try clear hcz132_2
        try clear hcz132_3
        try clear hcz136_0
        try clear hcz136_1
        try clear hcz136_2
        try clear hcz136_3
        try clear hcz13_0
        try clear hcz13_1
        try clear hcz13_2
        try clear hcz13_3
        try clear hcz146_0
        try clear hcz146_1
        try clear hcz146_2
        try clear hcz146_3
        try clear hcz156_0
        try clear hcz156_1
        try clear hcz156_2
        try clear hcz156_3
        try clear hcz15_0
        try clear hcz15_1
        try clear hcz15_2
        try clear hcz15_3
        try clear hcz160_0
        try clear hcz160_1
        try clear hcz160_2
        try clear hcz160_3
        try clear hcz166_0
        try clear hcz166_1
        try clear hcz166_2
        try clear hcz166_3
        try clear hcz170_0
        try clear hcz170_1
        try clear hcz170_2
        try clear hcz170_3
        try clear hcz176_0
        try clear hcz176_1
        try clear hcz176_2
        try clear hcz176_3
        try clear hcz180_0
        try clear hcz180_1
        try clear hcz180_2
        try clear hcz180_3
        try clear hcz22_0
        try clear hcz22_1
        try clear hcz22_2
        try clear hcz22_3
        try clear hcz25_0
        try clear hcz25_1
        try clear hcz25_2
        try clear hcz25_3
        try clear hcz30_0
        try clear hcz30_1
        try clear hcz30_2
        try clear hcz30_3
        try clear hcz38_0
        try clear hcz38_1
        try clear hcz38_2
        try clear hcz38_3
        try clear hcz47_0
        try clear hcz47_1
        try clear hcz47_2
        try clear hcz47_3
        try clear hcz50_0
        try clear hcz50_1
        try clear hcz50_2
        try clear hcz50_3
        try clear hcz55_0
        try clear hcz55_1
        try clear hcz55_2
        try clear hcz55_3
        try clear hcz58_0
        try clear hcz58_1
        try clear hcz58_2
        try clear hcz58_3
        try clear hcz5_0
        try clear hcz5_1
        try clear hcz5_2
        try clear hcz5_3
        try clear hcz63_0
        try clear hcz63_1
        try clear hcz63_2
        try clear hcz63_3
        try clear hcz66_0
        try clear hcz66_1
        try clear hcz66_2
        try clear hcz66_3
        try clear hcz82_0
        try clear hcz82_1
        try clear hcz82_2
        try clear hcz82_3
        try clear hcz91_0
        try clear hcz91_1
        try clear hcz91_2
        try clear hcz91_3
        try clear hcz94_0
        try clear hcz94_1
        try clear hcz94_2
        try clear hcz94_3
        try clear hcz99_0
        try clear hcz99_1
        try clear hcz99_2
        try clear hcz99_3
        try clear hfz102_0
        try clear hfz102_1
        try clear hfz102_2
        try clear hfz102_3
        try clear hfz107_0
        try clear hfz107_1
        try clear hfz107_2
        try clear hfz107_3
        try clear hfz110_0
        try clear hfz110_1
        try clear hfz110_2
        try clear hfz110_3
        try clear hfz119_0
        try clear hfz119_1
        try clear hfz119_2
        try clear hfz119_3
        try clear hfz121_0
        try clear hfz121_1
        try clear hfz121_2
        try clear hfz121_3
        try clear hfz130_0
        try clear hfz130_1
        try clear hfz130_2
        try clear hfz130_3
        try clear hfz132_0
        try clear hfz132_1
        try clear hfz132_2
        try clear hfz132_3
        try clear hfz136_0
        try clear hfz136_1
        try clear hfz136_2
        try clear hfz136_3
        try clear hfz13_0
        try clear hfz13_1
        try clear hfz13_2
        try clear hfz13_3
        try clear hfz146_0
        try clear hfz146_1
        try clear hfz146_2
        try clear hfz146_3
        try clear hfz156_0
        try clear hfz156_1
        try clear hfz156_2
        try clear hfz156_3
        try clear hfz15_0
        try clear hfz15_1
        try clear hfz15_2
        try clear hfz15_3
        try clear hfz160_0
        try clear hfz160_1
        try clear hfz160_2
        try clear hfz160_3
        try clear hfz166_0
        try clear hfz166_1
        try clear hfz166_2
        try clear hfz166_3
        try clear hfz170_0
        try clear hfz170_1
        try clear hfz170_2
        try clear hfz170_3
        try clear hfz176_0
        try clear hfz176_1
        try clear hfz176_2
        try clear hfz176_3
        try clear hfz180_0
        try clear hfz180_1
        try clear hfz180_2
        try clear hfz180_3
        try clear hfz22_0
        try clear hfz22_1
        try clear hfz22_2
        try clear hfz22_3
        try clear hfz25_0
        try clear hfz25_1
        try clear hfz25_2
        try clear hfz25_3
        try clear hfz30_0
        try clear hfz30_1
        try clear hfz30_2
        try clear hfz30_3
        try clear hfz38_0
        try clear hfz38_1
        try clear hfz38_2
        try clear hfz38_3
        try clear hfz47_0
        try clear hfz47_1
        try clear hfz47_2
        try clear hfz47_3
        try clear hfz50_0
        try clear hfz50_1
        try clear hfz50_2
        try clear hfz50_3
        try clear hfz55_0
        try clear hfz55_1
        try clear hfz55_2
        try clear hfz55_3
        try clear hfz58_0
        try clear hfz58_1
        try clear hfz58_2
        try clear hfz58_3
        try clear hfz5_0
        try clear hfz5_1
        try clear hfz5_2
        try clear hfz5_3
        try clear hfz63_0
        try clear hfz63_1
        try clear hfz63_2
        try clear hfz63_3
        try clear hfz66_0
        try clear hfz66_1
        try clear hfz66_2
        try clear hfz66_3
        try clear hfz82_0
        try clear hfz82_1
        try clear hfz82_2
        try clear hfz82_3
        try clear hfz91_0
        try clear hfz91_1
        try clear hfz91_2
        try clear hfz91_3
        try clear hfz94_0
        try clear hfz94_1
        try clear hfz94_2
        try clear hfz94_3
        try clear hfz99_0
        try clear hfz99_1
        try clear hfz99_2
        try clear hfz99_3
        try clear p2
        obtain ⟨kq, x108_125, rfl, HA, HJ125, HO_422001, HO_422002, HO_431001, HO_431002, HO_442001, HO_442002, HO_479001, HO_479002, BK401, BK421, BK430, BK441, BK478, HB⟩ := hcut
        have hl442001_125 := (Kd.R_reads' HO_442001.out).1
        rw [hl442001_125] at HO_442001
        (try simp only [hl442001_125])
        (try simp only [hl442001_125] at BK401)
        (try simp only [hl442001_125] at BK421)
        (try simp only [hl442001_125] at BK430)
        (try simp only [hl442001_125] at BK441)
        (try simp only [hl442001_125] at BK478)
        (try simp only [hl442001_125] at HO_422001)
        (try simp only [hl442001_125] at HO_422002)
        (try simp only [hl442001_125] at HO_431001)
        (try simp only [hl442001_125] at HO_431002)
        (try simp only [hl442001_125] at HO_442002)
        (try simp only [hl442001_125] at HO_479001)
        (try simp only [hl442001_125] at HO_479002)
        have hl442002_125 := (Kd.R_reads' HO_442002.out).1
        rw [hl442002_125] at HO_442002
        (try simp only [hl442002_125])
        (try simp only [hl442002_125] at BK401)
        (try simp only [hl442002_125] at BK421)
        (try simp only [hl442002_125] at BK430)
        (try simp only [hl442002_125] at BK441)
        (try simp only [hl442002_125] at BK478)
        (try simp only [hl442002_125] at HO_422001)
        (try simp only [hl442002_125] at HO_422002)
        (try simp only [hl442002_125] at HO_431001)
        (try simp only [hl442002_125] at HO_431002)
        (try simp only [hl442002_125] at HO_442001)
        (try simp only [hl442002_125] at HO_479001)
        (try simp only [hl442002_125] at HO_479002)
        cases kq with
        | zero => exact absurd HA.out (by simp [laws_FnExactBegin.j2])
        | succ kj125 =>
         have H := HA.out
         clear HA
         simp only [laws_FnExactBegin.j2] at H
         by_cases c182 : x108_125 = true
         ·
          subst c182
          have H1 : (some false) = some r := by rw [if_pos rfl] at H; exact H
          clear H
          have H := H1
          clear H1
          obtain rfl := Option.some.inj H
          go_wp2
          go_ret
          exact ⟨zq4, zq175⟩
         replace c182 := Bool.eq_false_iff.mpr c182
         subst c182
         have H1 : ((laws_heldStore.f kj125 t431 t457 t458 t438 1).bind fun t480 => (if t480 < 0 then (some false) else (if t480 = t456 then (some true) else (some false)))) = some r := by rw [if_neg (show ¬ (false = true) by decide)] at H; exact H
         clear H
         have H := H1
         clear H1
         replace H := Option.bind_eq_some_iff.mp H
         obtain ⟨t480, A1830, H⟩ := H
         try dsimp only at H
         have A183 := Aside0.mk A1830
         clear A1830
         by_cases c184 : t480 < 0
         ·
          rw [if_pos c184] at H
          have c184b0 := decide_eq_true c184
          clear c184
          obtain rfl := Option.some.inj H
          have hnb185 := NB441_401.out
          have hnc185 := NB401_441.out
          have hnb186 := NB441_421.out
          have hnc186 := NB421_441.out
          have hnb187 := NB441_430.out
          have hnc187 := NB430_441.out
          have hnb188 := NB441_478.out
          have hnc188 := NB478_441.out
          obtain ⟨hcz189_0, hcz189_1, hcz189_2, hcz189_3, hfz189_0, hfz189_1, hfz189_2, hfz189_3⟩ := c4 (w := wc) BK441
          go_wp2_with (first | ((with_reducible refine gC 32 rfl ?_); refine gL 111 Try.func32 #[.agg #[.int .i64 t431, .slice Ao39 t457.length co39, .slice Ao40 t458.length co40, .int .i64 t438], .int .i64 1] ?_; (with_reducible refine (laws_heldStore.calls kj125 t431 _ _ t457 _ _ t458 t438 1 t480 _ ?_ ?_ ?_ ?_ A183.out).mono ?_); exact zq143; exact zq144; exact zq145; exact zq146; rintro e w190 ⟨rfl, hb⟩; refine ⟨_, rfl, ?_⟩; replace HO_422001 := rB zq120 hb; replace HO_422002 := rB zq121 hb; replace HO_431001 := rB zq122 hb; replace HO_431002 := rB zq123 hb; replace HO_442001 := rB zq124 hb; replace HO_442002 := rB zq125 hb; replace HO_479001 := rB zq190 hb; replace HO_479002 := rB zq191 hb; replace BK401 := bF BK401 zq74 hb; replace BK421 := bF BK421 zq87 hb; replace BK430 := bF BK430 zq95 hb; replace BK441 := bF BK441 zq119 hb; replace BK478 := bF BK478 zq192 hb; replace HB := sB zq175 hb; clear hb))
          go_ret
          exact ⟨zq4, zq175⟩
         rw [if_neg c184] at H
         have c184b0 := decide_eq_false c184
         clear c184
         by_cases c191 : t480 = t456
         ·
          rw [if_pos c191] at H
          have c191b0 : (t480 == t456) = true := beq_iff_eq.mpr c191
          have c191b1 : (t480 != t456) = false := bne_eq_false_iff_eq.mpr c191
          clear c191
          obtain rfl := Option.some.inj H
          have hnb192 := NB441_401.out
          have hnc192 := NB401_441.out
          have hnb193 := NB441_421.out
          have hnc193 := NB421_441.out
          have hnb194 := NB441_430.out
          have hnc194 := NB430_441.out
          have hnb195 := NB441_478.out
          have hnc195 := NB478_441.out
          obtain ⟨hcz196_0, hcz196_1, hcz196_2, hcz196_3, hfz196_0, hfz196_1, hfz196_2, hfz196_3⟩ := c4 (w := wc) BK441
          go_wp2_with (first | ((with_reducible refine gC 32 rfl ?_); refine gL 111 Try.func32 #[.agg #[.int .i64 t431, .slice Ao39 t457.length co39, .slice Ao40 t458.length co40, .int .i64 t438], .int .i64 1] ?_; (with_reducible refine (laws_heldStore.calls kj125 t431 _ _ t457 _ _ t458 t438 1 t480 _ ?_ ?_ ?_ ?_ A183.out).mono ?_); exact zq143; exact zq144; exact zq145; exact zq146; rintro e w197 ⟨rfl, hb⟩; refine ⟨_, rfl, ?_⟩; replace HO_422001 := rB zq120 hb; replace HO_422002 := rB zq121 hb; replace HO_431001 := rB zq122 hb; replace HO_431002 := rB zq123 hb; replace HO_442001 := rB zq124 hb; replace HO_442002 := rB zq125 hb; replace HO_479001 := rB zq190 hb; replace HO_479002 := rB zq191 hb; replace BK401 := bF BK401 zq74 hb; replace BK421 := bF BK421 zq87 hb; replace BK430 := bF BK430 zq95 hb; replace BK441 := bF BK441 zq119 hb; replace BK478 := bF BK478 zq192 hb; replace HB := sB zq175 hb; clear hb))
          go_ret
          exact ⟨zq4, zq175⟩
         rw [if_neg c191] at H
         have c191b0 : (t480 == t456) = false := beq_eq_false_iff_ne.mpr c191
         have c191b1 : (t480 != t456) = true := bne_iff_ne.mpr c191
         obtain rfl := Option.some.inj H
         have hnb198 := NB441_401.out
         have hnc198 := NB401_441.out
         have hnb199 := NB441_421.out
         have hnc199 := NB421_441.out
         have hnb200 := NB441_430.out
         have hnc200 := NB430_441.out
         have hnb201 := NB441_478.out
         have hnc201 := NB478_441.out
         obtain ⟨hcz202_0, hcz202_1, hcz202_2, hcz202_3, hfz202_0, hfz202_1, hfz202_2, hfz202_3⟩ := c4 (w := wc) BK441
         go_wp2_with (first | ((with_reducible refine gC 32 rfl ?_); refine gL 111 Try.func32 #[.agg #[.int .i64 t431, .slice Ao39 t457.length co39, .slice Ao40 t458.length co40, .int .i64 t438], .int .i64 1] ?_; (with_reducible refine (laws_heldStore.calls kj125 t431 _ _ t457 _ _ t458 t438 1 t480 _ ?_ ?_ ?_ ?_ A183.out).mono ?_); exact zq143; exact zq144; exact zq145; exact zq146; rintro e w203 ⟨rfl, hb⟩; refine ⟨_, rfl, ?_⟩; replace HO_422001 := rB zq120 hb; replace HO_422002 := rB zq121 hb; replace HO_431001 := rB zq122 hb; replace HO_431002 := rB zq123 hb; replace HO_442001 := rB zq124 hb; replace HO_442002 := rB zq125 hb; replace HO_479001 := rB zq190 hb; replace HO_479002 := rB zq191 hb; replace BK401 := bF BK401 zq74 hb; replace BK421 := bF BK421 zq87 hb; replace BK430 := bF BK430 zq95 hb; replace BK441 := bF BK441 zq119 hb; replace BK478 := bF BK478 zq192 hb; replace HB := sB zq175 hb; clear hb))
         go_ret
         exact ⟨zq4, zq175⟩
      rw [if_neg c123] at H
      have c123b0 : (t459 == t456) = false := beq_eq_false_iff_ne.mpr c123
      have c123b1 : (t459 != t456) = true := bne_iff_ne.mpr c123
      obtain rfl := Option.some.inj H
      have hnb204 := NB441_401.out
      have hnc204 := NB401_441.out
      have hnb205 := NB441_421.out
      have hnc205 := NB421_441.out
      have hnb206 := NB441_430.out
      have hnc206 := NB430_441.out
      obtain ⟨hcz207_0, hcz207_1, hcz207_2, hcz207_3, hfz207_0, hfz207_1, hfz207_2, hfz207_3⟩ := c4 (w := wc) BK441
      go_wp2_with (first | ((with_reducible refine gC 27 rfl ?_); refine gL 79 Try.func27 #[.agg #[.int .i64 t431, .slice Ao39 t432.length co39, .slice Ao40 t435.length co40, .int .i64 t438], .int .i64 1] ?_; (with_reducible refine (laws_markStore.calls kj72 t431 (fun k_ => some k_ = (.slice Ao39 t432.length co39 : Value).ownBlock) (.slice Ao39 t432.length co39) t432 (fun k_ => some k_ = (.slice Ao40 t435.length co40 : Value).ownBlock) (.slice Ao40 t435.length co40) t435 t438 1 t456 t457 t458 w _ ?_ ?_ ?_ A113.out).mono ?_); exact zq112; exact zq151; exact zq152; rintro e w208 ⟨rfl, hy0, hy1, hb, hkp⟩; refine ⟨_, rfl, ?_⟩; replace HO_422001 := Aside0.mk (Kd.R_mono (ok' := fun k_ => some k_ ≠ (.slice Ao31 t453.length co31 : Value).ownBlock ∧ some k_ ≠ (.slice Ao39 t432.length co39 : Value).ownBlock) (Kd.R_keptB ((Kd.R_apart' HO_422001.out (Kd.R_typed HO_442002.out) (by decide))) hkp (fun k_ hk_ hs_ => Or.elim hs_ (fun e_ => by first | exact hk_.1.2 e_ | exact hk_.1.1 e_ | exact hk_.1.1.1 e_ | exact hk_.1.1.2 e_ | exact hk_.1.2.1 e_ | exact hk_.1.2.2 e_ | exact hk_.2 e_ | simp_all) (fun e_ => by first | exact hk_.2 e_ | exact hk_.1.1 e_ | exact hk_.1.2 e_ | exact hk_.1.1.1 e_ | exact hk_.1.1.2 e_ | exact hk_.1.2.1 e_ | exact hk_.1.2.2 e_ | simp_all))) (fun k_ hk_ => by first | exact ⟨hk_.1.1.1, hk_.1.1.2⟩ | simp_all)); replace HO_422002 := Aside0.mk (Kd.R_mono (ok' := fun k_ => some k_ ≠ (.slice Ao32 t454.length co32 : Value).ownBlock ∧ some k_ ≠ (.slice Ao40 t435.length co40 : Value).ownBlock) (Kd.R_keptB ((Kd.R_apart' HO_422002.out (Kd.R_typed HO_442001.out) (by decide))) hkp (fun k_ hk_ hs_ => Or.elim hs_ (fun e_ => by first | exact hk_.2 e_ | exact hk_.1.1 e_ | exact hk_.1.2 e_ | exact hk_.1.1.1 e_ | exact hk_.1.1.2 e_ | exact hk_.1.2.1 e_ | exact hk_.1.2.2 e_ | simp_all) (fun e_ => by first | exact hk_.1.2 e_ | exact hk_.1.1 e_ | exact hk_.1.1.1 e_ | exact hk_.1.1.2 e_ | exact hk_.1.2.1 e_ | exact hk_.1.2.2 e_ | exact hk_.2 e_ | simp_all))) (fun k_ hk_ => by first | exact ⟨hk_.1.1.1, hk_.1.1.2⟩ | simp_all)); replace HO_431001 := Aside0.mk (Kd.R_mono (ok' := fun k_ => some k_ ≠ (.slice Ao23 t412.length co23 : Value).ownBlock ∧ some k_ ≠ (.slice Ao39 t432.length co39 : Value).ownBlock) (Kd.R_keptB ((Kd.R_apart' HO_431001.out (Kd.R_typed HO_442002.out) (by decide))) hkp (fun k_ hk_ hs_ => Or.elim hs_ (fun e_ => by first | exact hk_.1.2 e_ | exact hk_.1.1 e_ | exact hk_.1.1.1 e_ | exact hk_.1.1.2 e_ | exact hk_.1.2.1 e_ | exact hk_.1.2.2 e_ | exact hk_.2 e_ | simp_all) (fun e_ => by first | exact hk_.2 e_ | exact hk_.1.1 e_ | exact hk_.1.2 e_ | exact hk_.1.1.1 e_ | exact hk_.1.1.2 e_ | exact hk_.1.2.1 e_ | exact hk_.1.2.2 e_ | simp_all))) (fun k_ hk_ => by first | exact ⟨hk_.1.1.1, hk_.1.1.2⟩ | simp_all)); replace HO_431002 := Aside0.mk (Kd.R_mono (ok' := fun k_ => some k_ ≠ (.slice Ao24 t415.length co24 : Value).ownBlock ∧ some k_ ≠ (.slice Ao40 t435.length co40 : Value).ownBlock) (Kd.R_keptB ((Kd.R_apart' HO_431002.out (Kd.R_typed HO_442001.out) (by decide))) hkp (fun k_ hk_ hs_ => Or.elim hs_ (fun e_ => by first | exact hk_.2 e_ | exact hk_.1.1 e_ | exact hk_.1.2 e_ | exact hk_.1.1.1 e_ | exact hk_.1.1.2 e_ | exact hk_.1.2.1 e_ | exact hk_.1.2.2 e_ | simp_all) (fun e_ => by first | exact hk_.1.2 e_ | exact hk_.1.1 e_ | exact hk_.1.1.1 e_ | exact hk_.1.1.2 e_ | exact hk_.1.2.1 e_ | exact hk_.1.2.2 e_ | exact hk_.2 e_ | simp_all))) (fun k_ hk_ => by first | exact ⟨hk_.1.1.1, hk_.1.1.2⟩ | simp_all)); replace BK401 := Aside0.mk (blk_kept zq132 hkp (fun hs_ => Or.elim hs_ (fun e_ => (fun e_ => (Kd.R_ne HO_442001.out BK401.out (by decide)) e_) e_) (fun e_ => (fun e_ => (Kd.R_ne HO_442002.out BK401.out (by decide)) e_) e_))); replace BK421 := Aside0.mk (blk_kept zq133 hkp (fun hs_ => Or.elim hs_ (fun e_ => (fun e_ => (Kd.R_ne HO_442001.out BK421.out (by decide)) e_) e_) (fun e_ => (fun e_ => (Kd.R_ne HO_442002.out BK421.out (by decide)) e_) e_))); replace BK430 := Aside0.mk (blk_kept zq134 hkp (fun hs_ => Or.elim hs_ (fun e_ => (fun e_ => (Kd.R_ne HO_442001.out BK430.out (by decide)) e_) e_) (fun e_ => (fun e_ => (Kd.R_ne HO_442002.out BK430.out (by decide)) e_) e_))); replace BK441 := Aside0.mk (blk_kept zq135 hkp (fun hs_ => Or.elim hs_ (fun e_ => (fun e_ => (Kd.R_ne HO_442001.out BK441.out (by decide)) e_) e_) (fun e_ => (fun e_ => (Kd.R_ne HO_442002.out BK441.out (by decide)) e_) e_))); replace HO_442001 := Aside0.mk (Kd.R_reok rfl hy0 (fun k_ e_ => HO_442001.out.1 k_ e_)); replace HO_442002 := Aside0.mk (Kd.R_reok rfl hy1 (fun k_ e_ => HO_442002.out.1 k_ e_)); replace HB := Aside0.mk hb; clear hb; (try clear hkp); (try clear hy0); (try clear hy1); obtain ⟨hcz209_0, hcz209_1, hcz209_2, hcz209_3, hfz209_0, hfz209_1, hfz209_2, hfz209_3⟩ := c4 (w := w208) BK441) | ((with_reducible refine gC 32 rfl ?_); refine gL 82 Try.func32 #[.agg #[.int .i64 t431, .slice Ao39 t457.length co39, .slice Ao40 t458.length co40, .int .i64 t438], .int .i64 1] ?_ (hargs := by (try simp only [List.map_toArray, List.map_cons, List.map_nil]); first | done | (rw [show t457.length = t432.length from (Kd.R_reads' HO_442001.out).1.symm, show t458.length = t435.length from (Kd.R_reads' HO_442002.out).1.symm] <;> rfl) | rfl | (simp only [List.length_drop, List.length_take]; rfl)); (with_reducible refine (laws_heldStore.calls kj72 t431 _ _ t457 _ _ t458 t438 1 t459 _ ?_ ?_ ?_ ?_ A114.out).mono ?_); exact zq143; exact zq154; exact zq145; exact zq155; rintro e w210 ⟨rfl, hb⟩; refine ⟨_, rfl, ?_⟩; replace HO_422001 := rB zq120 hb; replace HO_422002 := rB zq121 hb; replace HO_431001 := rB zq122 hb; replace HO_431002 := rB zq123 hb; replace HO_442001 := rB zq124 hb; replace HO_442002 := rB zq125 hb; replace BK401 := bF BK401 zq74 hb; replace BK421 := bF BK421 zq87 hb; replace BK430 := bF BK430 zq95 hb; replace BK441 := bF BK441 zq119 hb; replace HB := sB zq112 hb; clear hb))
      go_ret
      exact ⟨zq4, zq112⟩
   replace c71 := Bool.eq_false_iff.mpr c71
   subst c71
   have H1 : (some false) = some r := by rw [if_neg (show ¬ (false = true) by decide)] at H; exact H
   clear H
   have H := H1
   clear H1
   obtain rfl := Option.some.inj H
   try go_wp2
   replace HO_422001 := Aside0.mk (Kd.R_drew HO_422001.out)
   replace HO_422002 := Aside0.mk (Kd.R_drew HO_422002.out)
   replace HO_431001 := Aside0.mk (Kd.R_drew HO_431001.out)
   replace HO_431002 := Aside0.mk (Kd.R_drew HO_431002.out)
   replace HO_442001 := Aside0.mk (Kd.R_drew HO_442001.out)
   replace HO_442002 := Aside0.mk (Kd.R_drew HO_442002.out)
   replace BK401 := Aside0.mk (blk_drew BK401.out)
   replace BK421 := Aside0.mk (blk_drew BK421.out)
   replace BK430 := Aside0.mk (blk_drew BK430.out)
   replace BK441 := Aside0.mk (blk_drew BK441.out)
   replace HB := Aside0.mk (below_drew1 HB.out)
   refine start_ (n := 5) (S := fun w' => w'.cell? ⟨gb430, 0, none⟩ = some (.int .i64 t422) ∧ w'.cell? ⟨gb430, 1, none⟩ = some (.slice Ao31 t423.length co31) ∧ w'.cell? ⟨gb430, 2, none⟩ = some (.slice Ao32 t426.length co32) ∧ w'.cell? ⟨gb430, 3, none⟩ = some (.int .i64 t429) ∧ w'.cell? ⟨gb401, 0, none⟩ = some (.int .i64 a0_0) ∧ w'.cell? ⟨gb401, 1, none⟩ = some (.slice A0_1 l0_1.length c0_1) ∧ w'.cell? ⟨gb401, 2, none⟩ = some (.slice A0_2 l0_2.length c0_2) ∧ w'.cell? ⟨gb401, 3, none⟩ = some (.int .i64 a0_3)) (ds := []) #[false, false, false, false, false] (by kernel_rfl) rfl rfl ⟨(blk_cell BK430.out 0).trans rfl, (blk_cell BK430.out 1).trans rfl, (blk_cell BK430.out 2).trans rfl, (blk_cell BK430.out 3).trans rfl, (blk_cell BK401.out 0).trans rfl, (blk_cell BK401.out 1).trans rfl, (blk_cell BK401.out 2).trans rfl, (blk_cell BK401.out 3).trans rfl⟩ (fun hHeld => ?_)
   generalize wc.drew = w211 at HO_422001 HO_422002 HO_431001 HO_431002 HO_442001 HO_442002 BK401 BK421 BK430 BK441 HB hHeld ⊢
   refine take_ (i := 0) (N := some 51) (v := ?_) (a' := ?_) #[true, false, false, false, false] rfl rfl (by kernel_rfl) (fun _ _ _ h => h) (Or.inl ⟨by rfl, ?_⟩) hHeld ?_ ?_
   rotate_left
   exact zq331
   rotate_left
   exact zq328
   refine take_ (i := 1) (N := some 52) (v := ?_) (a' := ?_) #[true, true, false, false, false] rfl rfl (by kernel_rfl) (fun _ _ _ h => h) (Or.inl ⟨by rfl, ?_⟩) hHeld ?_ ?_
   rotate_left
   exact zq331
   rotate_left
   exact zq328
   refine one_ (i := 2) (N := some 53) #[true, true, true, false, false] rfl rfl (by kernel_rfl) (by decide) (fun K hK => ?_)
   refine goes_ Try.func17 (by kernel_rfl) rfl #[.agg #[.int .i64 a0_0, .slice A0_1 l0_1.length c0_1, .slice A0_2 l0_2.length c0_2, .int .i64 a0_3]] (by rfl) rfl rfl zq8 ?_
   with_reducible refine (laws_toStore.calls kj10 a0_0 _ _ l0_1 _ _ l0_2 a0_3 t443 t444 t447 t450 _ ?side1 ?side2 ?side3 ?side4 A69.out).mono ?_
   (case side1 => exact zq11)
   (case side2 => exact zq12)
   (case side3 => exact zq15)
   (case side4 => exact zq16)
   rintro e w212 ⟨v445, v448, rfl, ho0, ho1, hb⟩
   refine ⟨_, rfl, ?_⟩
   have HO446 := Aside0.mk (Kd.R_lower (Kd.R_new' (Kd.R_new' (Kd.R_new' ho0 (Kd.R_lt zq120)) (Kd.R_lt zq122)) (Kd.R_lt zq124)) (below_size zq112))
   replace HO_422001 := Aside0.mk (Kd.R_elder' zq120 (Kd.R_base ho0) hb)
   replace HO_431001 := Aside0.mk (Kd.R_elder' zq122 (Kd.R_base ho0) hb)
   replace HO_442001 := Aside0.mk (Kd.R_elder' zq124 (Kd.R_base ho0) hb)
   have HO449 := Aside0.mk (Kd.R_lower (Kd.R_new' (Kd.R_new' (Kd.R_new' ho1 (Kd.R_lt zq121)) (Kd.R_lt zq123)) (Kd.R_lt zq125)) (below_size zq112))
   replace HO_422002 := Aside0.mk (Kd.R_elder' zq121 (Kd.R_base ho1) hb)
   replace HO_431002 := Aside0.mk (Kd.R_elder' zq123 (Kd.R_base ho1) hb)
   replace HO_442002 := Aside0.mk (Kd.R_elder' zq125 (Kd.R_base ho1) hb)
   replace BK401 := bF BK401 zq74 hb
   replace BK421 := bF BK421 zq87 hb
   replace BK430 := bF BK430 zq95 hb
   replace BK441 := bF BK441 zq119 hb
   replace HB := sB zq112 hb
   (try clear hb)
   (try clear hb2)
   (try clear hk)
   (try clear hi)
   (try clear ho0)
   (try clear ho1)
   obtain ⟨Ao213, co213, eo213⟩ := Kd.R_slice HO446.out
   (first | subst eo213 | (injection eo213 with f1_ f2_ f3_; have f4_ := f1_.symm; have f5_ := f3_.symm; clear f1_ f2_ f3_; subst f4_; subst f5_))
   obtain ⟨Ao214, co214, eo214⟩ := Kd.R_slice HO449.out
   (first | subst eo214 | (injection eo214 with f1_ f2_ f3_; have f4_ := f1_.symm; have f5_ := f3_.symm; clear f1_ f2_ f3_; subst f4_; subst f5_))
   refine hK.out _ _ ⟨(blk_cell BK430.out 0).trans rfl, (blk_cell BK430.out 1).trans rfl, (blk_cell BK430.out 2).trans rfl, (blk_cell BK430.out 3).trans rfl, (blk_cell BK401.out 0).trans rfl, (blk_cell BK401.out 1).trans rfl, (blk_cell BK401.out 2).trans rfl, (blk_cell BK401.out 3).trans rfl⟩ (fun hHeld => ?_)
   clear hK K
   refine norm_ (a' := ?_) ?_ ?_
   rotate_left
   ·
    show Act.put _ (some 53) _ = _
    simp only [Act.put, List.setIfInBounds_toArray, List.set_cons_zero, List.set_cons_succ, i64_w, i32_w]
    rfl
   refine one_ (i := 3) (N := some 54) #[true, true, true, true, false] rfl rfl (by kernel_rfl) (by decide) (fun K hK => ?_)
   refine goes_ Try.func19 (by kernel_rfl) rfl #[.agg #[.int .i64 t422, .slice Ao31 t423.length co31, .slice Ao32 t426.length co32, .int .i64 t429], .agg #[.int .i64 t443, .slice Ao213 t444.length co213, .slice Ao214 t447.length co214, .int .i64 t450]] (by rfl) rfl rfl zq8 ?_
   with_reducible refine (laws_eqStore.calls kj10 t422 _ _ t423 _ _ t426 t429 t443 _ _ t444 _ _ t447 t450 false _ ?side1 ?side2 ?side3 ?side4 ?side5 ?side6 ?side7 ?side8 A70.out).mono ?_
   (case side1 => exact zq126)
   (case side2 => exact (Kd.R_reads' HO_431001.out).2.1)
   (case side3 => exact zq127)
   (case side4 => exact (Kd.R_reads' HO_431002.out).2.1)
   (case side5 => exact zq128)
   (case side6 => exact (Kd.R_reads' HO446.out).2.1)
   (case side7 => exact zq129)
   (case side8 => exact (Kd.R_reads' HO449.out).2.1)
   rintro e w215 ⟨rfl, hb⟩
   refine ⟨_, rfl, ?_⟩
   replace HO_422001 := rB zq120 hb
   replace HO_422002 := rB zq121 hb
   replace HO_431001 := rB zq122 hb
   replace HO_431002 := rB zq123 hb
   replace HO_442001 := rB zq124 hb
   replace HO_442002 := rB zq125 hb
   replace HO446 := rB zq130 hb
   replace HO449 := rB zq131 hb
   replace BK401 := bF BK401 zq74 hb
   replace BK421 := bF BK421 zq87 hb
   replace BK430 := bF BK430 zq95 hb
   replace BK441 := bF BK441 zq119 hb
   replace HB := sB zq112 hb
   (try clear hb)
   (try clear hb2)
   (try clear hk)
   (try clear hi)
   refine hK.out _ _ ⟨(blk_cell BK430.out 0).trans rfl, (blk_cell BK430.out 1).trans rfl, (blk_cell BK430.out 2).trans rfl, (blk_cell BK430.out 3).trans rfl, (blk_cell BK401.out 0).trans rfl, (blk_cell BK401.out 1).trans rfl, (blk_cell BK401.out 2).trans rfl, (blk_cell BK401.out 3).trans rfl⟩ (fun hHeld => ?_)
   clear hK K
   refine norm_ (a' := ?_) ?_ ?_
   rotate_left
   ·
    show Act.put _ (some 54) _ = _
    simp only [Act.put, List.setIfInBounds_toArray, List.set_cons_zero, List.set_cons_succ, i64_w, i32_w]
    rfl
   refine pure_ (i := 4) (N := some 55) (v := ?_) (a' := ?_) #[true, true, true, true, true] rfl rfl (by kernel_rfl) (fun _ _ _ h => h) (Or.inl ⟨by rfl, ?_⟩) ?_ ?_
   rotate_left
   exact zq327
   rotate_left
   exact zq328
   refine done_ (by kernel_rfl) ?_
   try go_wp2
   go_ret
   exact ⟨zq4, zq112⟩

/-- THE ONE PURE STATEMENT of laws_FnExactBegin. -/
def laws_FnExactBegin.Pure : Prop := ∀ (a0_0 : Int) (l0_1 : List (S95)) (l0_2 : List (S97)) (a0_3 : Int), (Lit.int .i64 a0_0).wf = true → (l0_1.length ≤ maxLen ∧ ∀ y0_ ∈ l0_1, (y0_.f0.size ≤ maxLen ∧ y0_.f1.size ≤ maxLen)) → (l0_2.length ≤ maxLen ∧ ∀ y0_ ∈ l0_2, ((Lit.int .i64 y0_.f0).wf = true ∧ y0_.f1.size ≤ maxLen)) → (Lit.int .i64 a0_3).wf = true → ∃ k, laws_FnExactBegin.f k a0_0 l0_1 l0_2 a0_3 = some true

end Go.Proofs.Ytacaeebjanglgaa.QFnExactBegin
