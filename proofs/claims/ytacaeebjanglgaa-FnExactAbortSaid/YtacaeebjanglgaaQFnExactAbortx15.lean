/- Written by wip/myprint.py of this repo (the kit's print, with additions of this session). -/
import Derived.Test.YtacaeebjanglgaaQFnExactAbortx0
import Derived.Test.YtacaeebjanglgaaQFnExactAbortx1
import Derived.Test.YtacaeebjanglgaaQFnExactAbortx3
import Derived.Test.YtacaeebjanglgaaQFnExactAbortx4
import Derived.Test.YtacaeebjanglgaaQFnExactAbortx5
import Derived.Test.YtacaeebjanglgaaQFnExactAbortx9
import Derived.Test.YtacaeebjanglgaaQFnExactAbortx14
set_option maxRecDepth 100000
namespace Go.Proofs.Ytacaeebjanglgaa.QFnExactAbort
open Go.RowKit Go.Proofs.YtacaeebjanglgaaW.PrintWords Go.Proofs.YtacaeebjanglgaaW.PrintLast Go.Proofs.YtacaeebjanglgaaW.PrintMore
attribute [local go_sem] max2_int min2_int max_two min_two max_three min_three max_four min_four   -- for this text's walks alone
set_option linter.unusedVariables false
set_option linter.unusedSimpArgs false

/-! ### laws_FnExactAbort: function 8 -/
mutual
def laws_FnExactAbort.j0 : Nat → Int → Int → Int → Bool → Int → List (S95) → List (S97) → Int → Int → List (S66) → List (S68) → Int → Int → List (S66) → List (S68) → Int → Int → List (S66) → List (S68) → Int → Option (Bool)
 | 0, _, _, _, _, _, _, _, _, _, _, _, _, _, _, _, _, _, _, _, _ => none
 | k + 1, x1, x7, x10, x44, x402000, x402001, x402002, x402003, x421000, x421001, x421002, x421003, x430000, x430001, x430002, x430003, x440000, x440001, x440002, x440003 => if x44 = true then (some false) else ((laws_toStore.f k x402000 x402001 x402002 x402003).bind fun bt441 => ((laws_eqStore.f k x430000 x430001 x430002 x430003 bt441.1 bt441.2.1 bt441.2.2.1 bt441.2.2.2).bind fun t449 => (if t449 = true then ((laws_markStore.f k x430000 x430001 x430002 x430003 1).bind fun bt450 => (if bt450.1 < 0 then (laws_FnExactAbort.j1 k x1 x7 true x402000 x402001 x402002 x402003 x421000 x421001 x421002 x421003 x440000 x440001 x440002 x440003) else ((laws_eqStore.f k x440000 x440001 x440002 x440003 x421000 x421001 x421002 x421003).bind fun t453 => (if t453 = true then (laws_FnExactAbort.j1 k x1 x7 (x10 != x7) x402000 x402001 x402002 x402003 x421000 x421001 x421002 x421003 x440000 x440001 x440002 x440003) else (laws_FnExactAbort.j1 k x1 x7 true x402000 x402001 x402002 x402003 x421000 x421001 x421002 x421003 x440000 x440001 x440002 x440003))))) else (some false))))
def laws_FnExactAbort.j1 : Nat → Int → Int → Bool → Int → List (S95) → List (S97) → Int → Int → List (S66) → List (S68) → Int → Int → List (S66) → List (S68) → Int → Option (Bool)
 | 0, _, _, _, _, _, _, _, _, _, _, _, _, _, _, _ => none
 | k + 1, x1, x7, x65, x402000, x402001, x402002, x402003, x421000, x421001, x421002, x421003, x440000, x440001, x440002, x440003 => if x65 = true then (some false) else ((laws_markStore.f k x440000 x440001 x440002 x440003 1).bind fun bt454 => ((laws_heldStore.f k x440000 bt454.2.1 bt454.2.2 x440003 1).bind fun t457 => (if t457 < 0 then (some false) else (if t457 = bt454.1 then ((laws_toStore.f k x402000 x402001 x402002 x402003).bind fun bt458 => ((impl_Abort.f k bt458.1 bt458.2.1 bt458.2.2.1 bt458.2.2.2 x1).bind fun bt466 => ((laws_eqStore.f k bt466.1 bt466.2.1 bt466.2.2.1 bt466.2.2.2.1 x421000 x421001 x421002 x421003).bind fun t476 => (if t476 = true then (laws_FnExactAbort.j2 k bt454.1 (bt466.2.2.2.2 != x7) x440000 bt454.2.1 bt454.2.2 x440003) else (laws_FnExactAbort.j2 k bt454.1 true x440000 bt454.2.1 bt454.2.2 x440003))))) else (some false)))))
def laws_FnExactAbort.j2 : Nat → Int → Bool → Int → List (S66) → List (S68) → Int → Option (Bool)
 | 0, _, _, _, _, _, _ => none
 | k + 1, x12, x92, x440000, x440001, x440002, x440003 => if x92 = true then (some false) else ((laws_heldStore.f k x440000 x440001 x440002 x440003 1).bind fun t477 => (if t477 < 0 then (some false) else (if t477 = x12 then (some true) else (some false))))
end
def laws_FnExactAbort.f (k : Nat) (a0_0 : Int) (l0_1 : List (S95)) (l0_2 : List (S97)) (a0_3 : Int) (a1 : Int) : Option (Bool) := (laws_szStore.f k a0_0 l0_1 l0_2 a0_3 1048576).bind fun t402 => (if t402 < 0 then (some true) else ((laws_toStore.f k a0_0 l0_1 l0_2 a0_3).bind fun bt403 => ((spec_Abort.f k bt403.1 bt403.2.1 bt403.2.2.1 bt403.2.2.2 a1).bind fun bt411 => ((laws_toStore.f k a0_0 l0_1 l0_2 a0_3).bind fun bt421 => ((impl_Abort.f k bt421.1 bt421.2.1 bt421.2.2.1 bt421.2.2.2 a1).bind fun bt430 => ((laws_eqStore.f k bt430.1 bt430.2.1 bt430.2.2.1 bt430.2.2.2.1 bt411.1 bt411.2.1 bt411.2.2.1 bt411.2.2.2.1).bind fun t440 => (if t440 = true then (laws_FnExactAbort.j0 k a1 bt411.2.2.2.2 bt430.2.2.2.2 (bt430.2.2.2.2 != bt411.2.2.2.2) a0_0 l0_1 l0_2 a0_3 bt411.1 bt411.2.1 bt411.2.2.1 bt411.2.2.2.1 bt421.1 bt421.2.1 bt421.2.2.1 bt421.2.2.2 bt430.1 bt430.2.1 bt430.2.2.1 bt430.2.2.2.1) else (laws_FnExactAbort.j0 k a1 bt411.2.2.2.2 bt430.2.2.2.2 true a0_0 l0_1 l0_2 a0_3 bt411.1 bt411.2.1 bt411.2.2.1 bt411.2.2.2.1 bt421.1 bt421.2.1 bt421.2.2.1 bt421.2.2.2 bt430.1 bt430.2.1 bt430.2.2.1 bt430.2.2.2.1))))))))
theorem laws_FnExactAbort.mono_l : ∀ k, (∀ y0 y1 y2 y3 y4 y5 y6 y7 y8 y9 y10 y11 y12 y13 y14 y15 y16 y17 y18 y19, LeO (laws_FnExactAbort.j0 k y0 y1 y2 y3 y4 y5 y6 y7 y8 y9 y10 y11 y12 y13 y14 y15 y16 y17 y18 y19) (laws_FnExactAbort.j0 (k + 1) y0 y1 y2 y3 y4 y5 y6 y7 y8 y9 y10 y11 y12 y13 y14 y15 y16 y17 y18 y19)) ∧ (∀ y0 y1 y2 y3 y4 y5 y6 y7 y8 y9 y10 y11 y12 y13 y14, LeO (laws_FnExactAbort.j1 k y0 y1 y2 y3 y4 y5 y6 y7 y8 y9 y10 y11 y12 y13 y14) (laws_FnExactAbort.j1 (k + 1) y0 y1 y2 y3 y4 y5 y6 y7 y8 y9 y10 y11 y12 y13 y14)) ∧ (∀ y0 y1 y2 y3 y4 y5, LeO (laws_FnExactAbort.j2 k y0 y1 y2 y3 y4 y5) (laws_FnExactAbort.j2 (k + 1) y0 y1 y2 y3 y4 y5))
 | 0 => ⟨fun _ _ _ _ _ _ _ _ _ _ _ _ _ _ _ _ _ _ _ _ r h => by simp [laws_FnExactAbort.j0] at h, fun _ _ _ _ _ _ _ _ _ _ _ _ _ _ _ r h => by simp [laws_FnExactAbort.j1] at h, fun _ _ _ _ _ _ r h => by simp [laws_FnExactAbort.j2] at h⟩
 | k + 1 => by
  obtain ⟨ih0, ih1, ih2⟩ := laws_FnExactAbort.mono_l k
  refine ⟨?_, ?_, ?_⟩
  ·
   intro y0 y1 y2 y3 y4 y5 y6 y7 y8 y9 y10 y11 y12 y13 y14 y15 y16 y17 y18 y19
   unfold laws_FnExactAbort.j0
   repeat' first
   | (with_reducible exact ih0 _ _ _ _ _ _ _ _ _ _ _ _ _ _ _ _ _ _ _ _)
   | (with_reducible exact ih1 _ _ _ _ _ _ _ _ _ _ _ _ _ _ _)
   | (with_reducible exact ih2 _ _ _ _ _ _)
   | (with_reducible exact impl_Abort.mono _ _ _ _ _ _)
   | (with_reducible exact laws_eqStore.mono _ _ _ _ _ _ _ _ _)
   | (with_reducible exact laws_heldStore.mono _ _ _ _ _ _)
   | (with_reducible exact laws_markStore.mono _ _ _ _ _ _)
   | (with_reducible exact laws_szStore.mono _ _ _ _ _ _)
   | (with_reducible exact laws_toStore.mono _ _ _ _ _)
   | (with_reducible exact spec_Abort.mono _ _ _ _ _ _)
   | (with_reducible exact LeO.refl _)
   | (with_reducible exact LeO.none _)
   | (with_reducible refine LeO.ite ?_ ?_)
   | (with_reducible refine LeO.bind ?_ (fun _ => ?_))
   | exact LeO.none _
   | refine LeO.ite ?_ ?_
   | refine LeO.bind ?_ (fun _ => ?_)
  ·
   intro y0 y1 y2 y3 y4 y5 y6 y7 y8 y9 y10 y11 y12 y13 y14
   unfold laws_FnExactAbort.j1
   repeat' first
   | (with_reducible exact ih0 _ _ _ _ _ _ _ _ _ _ _ _ _ _ _ _ _ _ _ _)
   | (with_reducible exact ih1 _ _ _ _ _ _ _ _ _ _ _ _ _ _ _)
   | (with_reducible exact ih2 _ _ _ _ _ _)
   | (with_reducible exact impl_Abort.mono _ _ _ _ _ _)
   | (with_reducible exact laws_eqStore.mono _ _ _ _ _ _ _ _ _)
   | (with_reducible exact laws_heldStore.mono _ _ _ _ _ _)
   | (with_reducible exact laws_markStore.mono _ _ _ _ _ _)
   | (with_reducible exact laws_szStore.mono _ _ _ _ _ _)
   | (with_reducible exact laws_toStore.mono _ _ _ _ _)
   | (with_reducible exact spec_Abort.mono _ _ _ _ _ _)
   | (with_reducible exact LeO.refl _)
   | (with_reducible exact LeO.none _)
   | (with_reducible refine LeO.ite ?_ ?_)
   | (with_reducible refine LeO.bind ?_ (fun _ => ?_))
   | exact LeO.none _
   | refine LeO.ite ?_ ?_
   | refine LeO.bind ?_ (fun _ => ?_)
  intro y0 y1 y2 y3 y4 y5
  unfold laws_FnExactAbort.j2
  repeat' first
  | (with_reducible exact ih0 _ _ _ _ _ _ _ _ _ _ _ _ _ _ _ _ _ _ _ _)
  | (with_reducible exact ih1 _ _ _ _ _ _ _ _ _ _ _ _ _ _ _)
  | (with_reducible exact ih2 _ _ _ _ _ _)
  | (with_reducible exact impl_Abort.mono _ _ _ _ _ _)
  | (with_reducible exact laws_eqStore.mono _ _ _ _ _ _ _ _ _)
  | (with_reducible exact laws_heldStore.mono _ _ _ _ _ _)
  | (with_reducible exact laws_markStore.mono _ _ _ _ _ _)
  | (with_reducible exact laws_szStore.mono _ _ _ _ _ _)
  | (with_reducible exact laws_toStore.mono _ _ _ _ _)
  | (with_reducible exact spec_Abort.mono _ _ _ _ _ _)
  | (with_reducible exact LeO.refl _)
  | (with_reducible exact LeO.none _)
  | (with_reducible refine LeO.ite ?_ ?_)
  | (with_reducible refine LeO.bind ?_ (fun _ => ?_))
  | exact LeO.none _
  | refine LeO.ite ?_ ?_
  | refine LeO.bind ?_ (fun _ => ?_)
theorem laws_FnExactAbort.mono : ∀ a0 a1 a2 a3 a4 k, LeO (laws_FnExactAbort.f k a0 a1 a2 a3 a4) (laws_FnExactAbort.f (k + 1) a0 a1 a2 a3 a4) := by
 intro a0 a1 a2 a3 a4 k
 obtain ⟨ih0, ih1, ih2⟩ := laws_FnExactAbort.mono_l k
 unfold laws_FnExactAbort.f
 repeat' first
   | (with_reducible exact ih0 _ _ _ _ _ _ _ _ _ _ _ _ _ _ _ _ _ _ _ _)
   | (with_reducible exact ih1 _ _ _ _ _ _ _ _ _ _ _ _ _ _ _)
   | (with_reducible exact ih2 _ _ _ _ _ _)
   | (with_reducible exact impl_Abort.mono _ _ _ _ _ _)
   | (with_reducible exact laws_eqStore.mono _ _ _ _ _ _ _ _ _)
   | (with_reducible exact laws_heldStore.mono _ _ _ _ _ _)
   | (with_reducible exact laws_markStore.mono _ _ _ _ _ _)
   | (with_reducible exact laws_szStore.mono _ _ _ _ _ _)
   | (with_reducible exact laws_toStore.mono _ _ _ _ _)
   | (with_reducible exact spec_Abort.mono _ _ _ _ _ _)
   | (with_reducible exact LeO.refl _)
   | (with_reducible exact LeO.none _)
   | (with_reducible refine LeO.ite ?_ ?_)
   | (with_reducible refine LeO.bind ?_ (fun _ => ?_))
   | exact LeO.none _
   | refine LeO.ite ?_ ?_
   | refine LeO.bind ?_ (fun _ => ?_)
set_option maxHeartbeats 8000000 in
set_option maxRecDepth 100000 in
theorem laws_FnExactAbort.calls (k : Nat) (a0_0 : Int) (A0_1 : Option Addr) (c0_1 : Nat) (l0_1 : List (S95)) (A0_2 : Option Addr) (c0_2 : Nat) (l0_2 : List (S97)) (a0_3 : Int) (a1 : Int) (r : Bool) (w : World) (hr0_1 : Kd.C k95 w A0_1 l0_1.length l0_1) (hc0_1 : l0_1.length ≤ c0_1) (hr0_2 : Kd.C k97 w A0_2 l0_2.length l0_2) (hc0_2 : l0_2.length ≤ c0_2) (h : laws_FnExactAbort.f k a0_0 l0_1 l0_2 a0_3 a1 = some r) :
  Calls Try.prog 8 #[.agg #[.int .i64 a0_0, .slice A0_1 l0_1.length c0_1, .slice A0_2 l0_2.length c0_2, .int .i64 a0_3], .int .i64 a1] w fun e w' => e = .returned (.bool r) ∧ Below w.heap.size w w' := by
 have hu25 := Try.underlying25
 have hu31 := Try.underlying31
 have HR0_1 := Aside0.mk hr0_1
 have HC0_1 := Aside0.mk hc0_1
 clear hr0_1 hc0_1
 have HR0_2 := Aside0.mk hr0_2
 have HC0_2 := Aside0.mk hc0_2
 clear hr0_2 hc0_2
 have HB := Aside0.mk (Below.refl w.heap.size w)
 have H : ((laws_szStore.f k a0_0 l0_1 l0_2 a0_3 1048576).bind fun t402 => (if t402 < 0 then (some true) else ((laws_toStore.f k a0_0 l0_1 l0_2 a0_3).bind fun bt403 => ((spec_Abort.f k bt403.1 bt403.2.1 bt403.2.2.1 bt403.2.2.2 a1).bind fun bt411 => ((laws_toStore.f k a0_0 l0_1 l0_2 a0_3).bind fun bt421 => ((impl_Abort.f k bt421.1 bt421.2.1 bt421.2.2.1 bt421.2.2.2 a1).bind fun bt430 => ((laws_eqStore.f k bt430.1 bt430.2.1 bt430.2.2.1 bt430.2.2.2.1 bt411.1 bt411.2.1 bt411.2.2.1 bt411.2.2.2.1).bind fun t440 => (if t440 = true then (laws_FnExactAbort.j0 k a1 bt411.2.2.2.2 bt430.2.2.2.2 (bt430.2.2.2.2 != bt411.2.2.2.2) a0_0 l0_1 l0_2 a0_3 bt411.1 bt411.2.1 bt411.2.2.1 bt411.2.2.2.1 bt421.1 bt421.2.1 bt421.2.2.1 bt421.2.2.2 bt430.1 bt430.2.1 bt430.2.2.1 bt430.2.2.2.1) else (laws_FnExactAbort.j0 k a1 bt411.2.2.2.2 bt430.2.2.2.2 true a0_0 l0_1 l0_2 a0_3 bt411.1 bt411.2.1 bt411.2.2.1 bt411.2.2.2.1 bt421.1 bt421.2.1 bt421.2.2.1 bt421.2.2.2 bt430.1 bt430.2.1 bt430.2.2.1 bt430.2.2.2.1))))))))) = some r := h
 clear h
 replace H := Option.bind_eq_some_iff.mp H
 obtain ⟨t402, A30, H⟩ := H
 try dsimp only at H
 have A3 := Aside0.mk A30
 clear A30
 by_cases c4 : t402 < 0
 ·
  rw [if_pos c4] at H
  have c4b0 := decide_eq_true c4
  clear c4
  obtain rfl := Option.some.inj H
  go_enter Try.func8, Try.ntmps8
  go_wp2_with (first | ((with_reducible refine gate_dst (N := 2) rfl ?_); refine box_event ?hg (N := 2) ?hd (cs := #[.int .i64 a0_0, .slice A0_1 l0_1.length c0_1, .slice A0_2 l0_2.length c0_2, .int .i64 a0_3]) (t := 25) ?hr ?_; (case hd => rfl); (case hg => rfl); (case hr => exact zq2); intro gb401 hg w5 hbox hb; have BK401 := Aside0.mk hbox; have GW401 := Aside0.mk (zq255 : w.heap.size ≤ gb401); have GE401 := Aside0.mk (zq255 : w.heap.size ≤ gb401); replace HB := sB zq3 hb; clear hb hbox hg; obtain ⟨hcz6_0, hcz6_1, hcz6_2, hcz6_3, hfz6_0, hfz6_1, hfz6_2, hfz6_3⟩ := c4 (w := w5) BK401) | ((with_reducible refine gC 15 rfl ?_); refine gL 18 Try.func15 #[.agg #[.int .i64 a0_0, .slice A0_1 l0_1.length c0_1, .slice A0_2 l0_2.length c0_2, .int .i64 a0_3], .int .i64 1048576] ?_; (with_reducible refine (laws_szStore.calls k a0_0 _ _ l0_1 _ _ l0_2 a0_3 1048576 t402 _ ?_ ?_ ?_ ?_ A3.out).mono ?_); exact zq11; exact zq12; exact zq15; exact zq16; rintro e w7 ⟨rfl, hb⟩; refine ⟨_, rfl, ?_⟩; replace BK401 := bF BK401 zq81 hb; replace HB := sB zq82 hb; clear hb))
  go_ret
  exact ⟨zq4, zq82⟩
 rw [if_neg c4] at H
 have c4b0 := decide_eq_false c4
 clear c4
 replace H := Option.bind_eq_some_iff.mp H
 obtain ⟨⟨t403, t404, t407, t410⟩, A80, H⟩ := H
 try dsimp only at H
 have A8 := Aside0.mk A80
 clear A80
 replace H := Option.bind_eq_some_iff.mp H
 obtain ⟨⟨t411, t412, t415, t418, t419⟩, A90, H⟩ := H
 try dsimp only at H
 have A9 := Aside0.mk A90
 clear A90
 replace H := Option.bind_eq_some_iff.mp H
 obtain ⟨⟨t421, t422, t425, t428⟩, A100, H⟩ := H
 try dsimp only at H
 have A10 := Aside0.mk A100
 clear A100
 replace H := Option.bind_eq_some_iff.mp H
 obtain ⟨⟨t430, t431, t434, t437, t438⟩, A110, H⟩ := H
 try dsimp only at H
 have A11 := Aside0.mk A110
 clear A110
 have HC12 := Aside0.mk H
 clear H
 go_enter Try.func8, Try.ntmps8
 go_upto_region 8 with (first | ((with_reducible refine gate_dst (N := 2) rfl ?_); refine box_event ?hg (N := 2) ?hd (cs := #[.int .i64 a0_0, .slice A0_1 l0_1.length c0_1, .slice A0_2 l0_2.length c0_2, .int .i64 a0_3]) (t := 25) ?hr ?_; (case hd => rfl); (case hg => rfl); (case hr => exact zq2); intro gb401 hg w13 hbox hb; have BK401 := Aside0.mk hbox; have GW401 := Aside0.mk (zq255 : w.heap.size ≤ gb401); have GE401 := Aside0.mk (zq255 : w.heap.size ≤ gb401); replace HB := sB zq3 hb; clear hb hbox hg; obtain ⟨hcz14_0, hcz14_1, hcz14_2, hcz14_3, hfz14_0, hfz14_1, hfz14_2, hfz14_3⟩ := c4 (w := w13) BK401) | ((with_reducible refine gC 15 rfl ?_); refine gL 18 Try.func15 #[.agg #[.int .i64 a0_0, .slice A0_1 l0_1.length c0_1, .slice A0_2 l0_2.length c0_2, .int .i64 a0_3], .int .i64 1048576] ?_; (with_reducible refine (laws_szStore.calls k a0_0 _ _ l0_1 _ _ l0_2 a0_3 1048576 t402 _ ?_ ?_ ?_ ?_ A3.out).mono ?_); exact zq11; exact zq12; exact zq15; exact zq16; rintro e w15 ⟨rfl, hb⟩; refine ⟨_, rfl, ?_⟩; replace BK401 := bF BK401 zq81 hb; replace HB := sB zq82 hb; clear hb; obtain ⟨hcz16_0, hcz16_1, hcz16_2, hcz16_3, hfz16_0, hfz16_1, hfz16_2, hfz16_3⟩ := c4 (w := w15) BK401) | ((with_reducible refine gC 17 rfl ?_); refine gL 23 Try.func17 #[.agg #[.int .i64 a0_0, .slice A0_1 l0_1.length c0_1, .slice A0_2 l0_2.length c0_2, .int .i64 a0_3]] ?_; (with_reducible refine (laws_toStore.calls k a0_0 _ _ l0_1 _ _ l0_2 a0_3 t403 t404 t407 t410 _ ?_ ?_ ?_ ?_ A8.out).mono ?_); exact zq11; exact zq12; exact zq15; exact zq16; rintro e w17 ⟨v405, v408, rfl, ho0, ho1, hb⟩; refine ⟨_, rfl, ?_⟩; have HO406 := Aside0.mk (Kd.R_lower ho0 (below_size zq82)); have HO409 := Aside0.mk (Kd.R_lower ho1 (below_size zq82)); replace BK401 := bF BK401 zq81 hb; replace HB := sB zq82 hb; clear hb; (try clear ho0); (try clear ho1); obtain ⟨Ao18, co18, eo18⟩ := Kd.R_slice HO406.out; subst eo18; obtain ⟨Ao19, co19, eo19⟩ := Kd.R_slice HO409.out; subst eo19) | ((with_reducible refine gC 33 rfl ?_); refine gL 25 Try.func33 #[.agg #[.int .i64 t403, .slice Ao18 t404.length co18, .slice Ao19 t407.length co19, .int .i64 t410], .int .i64 a1] ?_; (with_reducible refine (spec_Abort.calls k t403 _ _ t404 _ _ t407 t410 a1 t411 t412 t415 t418 t419 _ ?side1 ?_ ?side3 ?_ A9.out).mono ?_); (case side1 => repeat (first | exact (Kd.R_reads' HO406.out).2.2 | (with_reducible refine Kd.C_alloc ?_ _) | (with_reducible refine Kd.C_drewN ?_ _) | (with_reducible refine Kd.C_drew ?_))); exact (Kd.R_reads' HO406.out).2.1; (case side3 => repeat (first | exact (Kd.R_reads' HO409.out).2.2 | (with_reducible refine Kd.C_alloc ?_ _) | (with_reducible refine Kd.C_drewN ?_ _) | (with_reducible refine Kd.C_drew ?_))); exact (Kd.R_reads' HO409.out).2.1; rintro e w20 ⟨v413, v416, rfl, ho0, ho1, hb⟩; refine ⟨_, rfl, ?_⟩; have HO414 := Aside0.mk (Kd.R_lower (Kd.R_new' ho0 (Kd.R_lt zq83)) (below_size zq82)); replace HO406 := Aside0.mk (Kd.R_elder' zq83 (Kd.R_base ho0) hb); have HO417 := Aside0.mk (Kd.R_lower (Kd.R_new' ho1 (Kd.R_lt zq84)) (below_size zq82)); replace HO409 := Aside0.mk (Kd.R_elder' zq84 (Kd.R_base ho1) hb); replace BK401 := bF BK401 zq81 hb; replace HB := sB zq82 hb; clear hb; (try clear ho0); (try clear ho1)) | ((with_reducible refine gate_dst (N := 6) rfl ?_); refine box_event ?hg (N := 6) ?hd (cs := #[.int .i64 0, .slice none 0 0, .slice none 0 0, .int .i64 0]) (t := 31) ?hr ?_; (case hd => rfl); (case hg => rfl); (case hr => exact zq2); intro gb420 hg w21 hbox hb; replace HO406 := rB zq83 hb; replace HO409 := rB zq84 hb; replace HO414 := rB zq85 hb; replace HO417 := rB zq86 hb; have BK420 := Aside0.mk hbox; have GW420 := Aside0.mk (by rw [hg]; exact (below_size zq82) : w.heap.size ≤ gb420); have GE420 := Aside0.mk (by rw [hg]; exact (below_size zq82) : w.heap.size ≤ gb420); replace HB := sB zq82 hb; have NB401_420 := Aside0.mk (zq280 : gb401 ≠ gb420); have NB420_401 := Aside0.mk (zq281 : gb420 ≠ gb401); replace BK401 := bF BK401 zq81 hb; clear hb hbox hg; have hnb22 := NB420_401.out; have hnc22 := NB401_420.out; obtain ⟨hcz23_0, hcz23_1, hcz23_2, hcz23_3, hfz23_0, hfz23_1, hfz23_2, hfz23_3⟩ := c4 (w := w21) BK420; obtain ⟨Ao24, co24, eo24⟩ := Kd.R_slice HO414.out; subst eo24; obtain ⟨Ao25, co25, eo25⟩ := Kd.R_slice HO417.out; subst eo25; obtain ⟨hcz26_0, hcz26_1, hcz26_2, hcz26_3, hfz26_0, hfz26_1, hfz26_2, hfz26_3⟩ := c4 (w := w21) BK401) | ((with_reducible refine gC 17 rfl ?_); refine gL 29 Try.func17 #[.agg #[.int .i64 a0_0, .slice A0_1 l0_1.length c0_1, .slice A0_2 l0_2.length c0_2, .int .i64 a0_3]] ?_; (with_reducible refine (laws_toStore.calls k a0_0 _ _ l0_1 _ _ l0_2 a0_3 t421 t422 t425 t428 _ ?_ ?_ ?_ ?_ A10.out).mono ?_); exact Kd.C_below HR0_1.out zq87; exact zq12; exact Kd.C_below HR0_2.out zq87; exact zq16; rintro e w27 ⟨v423, v426, rfl, ho0, ho1, hb⟩; refine ⟨_, rfl, ?_⟩; have HO424 := Aside0.mk (Kd.R_lower (Kd.R_new' (Kd.R_new' ho0 (Kd.R_lt zq88)) (Kd.R_lt zq90)) (below_size zq87)); replace HO406 := Aside0.mk (Kd.R_elder' zq88 (Kd.R_base ho0) hb); replace HO414 := Aside0.mk (Kd.R_elder' zq90 (Kd.R_base ho0) hb); have HO427 := Aside0.mk (Kd.R_lower (Kd.R_new' (Kd.R_new' ho1 (Kd.R_lt zq89)) (Kd.R_lt zq91)) (below_size zq87)); replace HO409 := Aside0.mk (Kd.R_elder' zq89 (Kd.R_base ho1) hb); replace HO417 := Aside0.mk (Kd.R_elder' zq91 (Kd.R_base ho1) hb); replace BK401 := bF BK401 (by (with_reducible repeat (first | refine blk_drewN ?_ _ | refine blk_drew ?_ | refine blk_alloc ?_ _)); refine blk_far ?_ NB401_420.out _; (with_reducible repeat (first | refine blk_drewN ?_ _ | refine blk_drew ?_ | refine blk_alloc ?_ _)); refine blk_far ?_ NB401_420.out _; (with_reducible repeat (first | refine blk_drewN ?_ _ | refine blk_drew ?_ | refine blk_alloc ?_ _)); refine blk_far ?_ NB401_420.out _; (with_reducible repeat (first | refine blk_drewN ?_ _ | refine blk_drew ?_ | refine blk_alloc ?_ _)); refine blk_far ?_ NB401_420.out _; (with_reducible repeat (first | refine blk_drewN ?_ _ | refine blk_drew ?_ | refine blk_alloc ?_ _)); exact BK401.out) hb; replace BK420 := bB (g := gb420) (o := .cells #[.int .i64 t411, .slice Ao24 t412.length co24, .slice Ao25 t415.length co25, .int .i64 t418] 31 (0, 0)) (by (with_reducible repeat (first | refine blk_drewN ?_ _ | refine blk_drew ?_ | refine blk_alloc ?_ _)); refine blk_put (cs := #[.int .i64 t411, .slice Ao24 t412.length co24, .slice Ao25 t415.length co25, .int .i64 0]) ?_ 3 _ rfl; (with_reducible repeat (first | refine blk_drewN ?_ _ | refine blk_drew ?_ | refine blk_alloc ?_ _)); refine blk_put (cs := #[.int .i64 t411, .slice Ao24 t412.length co24, .slice none 0 0, .int .i64 0]) ?_ 2 _ rfl; (with_reducible repeat (first | refine blk_drewN ?_ _ | refine blk_drew ?_ | refine blk_alloc ?_ _)); refine blk_put (cs := #[.int .i64 t411, .slice none 0 0, .slice none 0 0, .int .i64 0]) ?_ 1 _ rfl; (with_reducible repeat (first | refine blk_drewN ?_ _ | refine blk_drew ?_ | refine blk_alloc ?_ _)); refine blk_put (cs := #[.int .i64 0, .slice none 0 0, .slice none 0 0, .int .i64 0]) ?_ 0 _ rfl; (with_reducible repeat (first | refine blk_drewN ?_ _ | refine blk_drew ?_ | refine blk_alloc ?_ _)); exact BK420.out) hb; replace HB := sB zq87 hb; clear hb; (try clear ho0); (try clear ho1)) | ((with_reducible refine gate_dst (N := 8) rfl ?_); refine box_event ?hg (N := 8) ?hd (cs := #[.int .i64 0, .slice none 0 0, .slice none 0 0, .int .i64 0]) (t := 31) ?hr ?_; (case hd => rfl); (case hg => rfl); (case hr => exact zq2); intro gb429 hg w28 hbox hb; replace HO406 := rB zq83 hb; replace HO409 := rB zq84 hb; replace HO414 := rB zq85 hb; replace HO417 := rB zq86 hb; replace HO424 := rB zq92 hb; replace HO427 := rB zq93 hb; have BK429 := Aside0.mk hbox; have GW429 := Aside0.mk (by rw [hg]; exact (below_size zq87) : w.heap.size ≤ gb429); have GE429 := Aside0.mk (by rw [hg]; exact (below_size zq87) : w.heap.size ≤ gb429); replace HB := sB zq87 hb; have NB401_429 := Aside0.mk (zq280 : gb401 ≠ gb429); have NB429_401 := Aside0.mk (zq281 : gb429 ≠ gb401); replace BK401 := bF BK401 zq81 hb; have NB420_429 := Aside0.mk (zq282 : gb420 ≠ gb429); have NB429_420 := Aside0.mk (zq283 : gb429 ≠ gb420); replace BK420 := bF BK420 zq94 hb; clear hb hbox hg; have hnb29 := NB429_401.out; have hnc29 := NB401_429.out; have hnb30 := NB429_420.out; have hnc30 := NB420_429.out; obtain ⟨hcz31_0, hcz31_1, hcz31_2, hcz31_3, hfz31_0, hfz31_1, hfz31_2, hfz31_3⟩ := c4 (w := w28) BK429; obtain ⟨Ao32, co32, eo32⟩ := Kd.R_slice HO424.out; subst eo32; obtain ⟨Ao33, co33, eo33⟩ := Kd.R_slice HO427.out; subst eo33) | ((with_reducible refine gC 34 rfl ?_); refine gL 33 Try.func34 #[.agg #[.int .i64 t421, .slice Ao32 t422.length co32, .slice Ao33 t425.length co33, .int .i64 t428], .int .i64 a1] ?_; (with_reducible refine (impl_Abort.calls k t421 _ _ t422 _ _ t425 t428 a1 t430 t431 t434 t437 t438 _ ?side1 ?_ ?side3 ?_ A11.out).mono ?_); (case side1 => refine (Kd.R_reads' (e := 66) (base := w.heap.size) (ok := fun k_ => ((True ∧ some k_ ≠ (.slice Ao18 t404.length co18 : Value).ownBlock) ∧ some k_ ≠ (.slice Ao24 t412.length co24 : Value).ownBlock)) (n := t422.length) (c := co32) ?_).2.2; exact zq95); exact (Kd.R_reads' HO424.out).2.1; (case side3 => refine (Kd.R_reads' (e := 68) (base := w.heap.size) (ok := fun k_ => ((True ∧ some k_ ≠ (.slice Ao19 t407.length co19 : Value).ownBlock) ∧ some k_ ≠ (.slice Ao25 t415.length co25 : Value).ownBlock)) (n := t425.length) (c := co33) ?_).2.2; exact zq96); exact (Kd.R_reads' HO427.out).2.1; rintro e w34 ⟨v432, v435, rfl, ho0, ho1, hb⟩; refine ⟨_, rfl, ?_⟩; have HO433 := Aside0.mk (Kd.R_lower (Kd.R_new' (Kd.R_new' (Kd.R_new' ho0 (Kd.R_lt zq97)) (Kd.R_lt zq99)) (Kd.R_lt zq95)) (below_size zq101)); replace HO406 := Aside0.mk (Kd.R_elder' zq97 (Kd.R_base ho0) hb); replace HO414 := Aside0.mk (Kd.R_elder' zq99 (Kd.R_base ho0) hb); replace HO424 := Aside0.mk (Kd.R_elder' zq95 (Kd.R_base ho0) hb); have HO436 := Aside0.mk (Kd.R_lower (Kd.R_new' (Kd.R_new' (Kd.R_new' ho1 (Kd.R_lt zq98)) (Kd.R_lt zq100)) (Kd.R_lt zq96)) (below_size zq101)); replace HO409 := Aside0.mk (Kd.R_elder' zq98 (Kd.R_base ho1) hb); replace HO417 := Aside0.mk (Kd.R_elder' zq100 (Kd.R_base ho1) hb); replace HO427 := Aside0.mk (Kd.R_elder' zq96 (Kd.R_base ho1) hb); replace BK401 := bF BK401 (by (with_reducible repeat (first | refine blk_drewN ?_ _ | refine blk_drew ?_ | refine blk_alloc ?_ _)); refine blk_far ?_ NB401_429.out _; (with_reducible repeat (first | refine blk_drewN ?_ _ | refine blk_drew ?_ | refine blk_alloc ?_ _)); refine blk_far ?_ NB401_429.out _; (with_reducible repeat (first | refine blk_drewN ?_ _ | refine blk_drew ?_ | refine blk_alloc ?_ _)); refine blk_far ?_ NB401_429.out _; (with_reducible repeat (first | refine blk_drewN ?_ _ | refine blk_drew ?_ | refine blk_alloc ?_ _)); refine blk_far ?_ NB401_429.out _; (with_reducible repeat (first | refine blk_drewN ?_ _ | refine blk_drew ?_ | refine blk_alloc ?_ _)); exact BK401.out) hb; replace BK420 := bF BK420 (by (with_reducible repeat (first | refine blk_drewN ?_ _ | refine blk_drew ?_ | refine blk_alloc ?_ _)); refine blk_far ?_ NB420_429.out _; (with_reducible repeat (first | refine blk_drewN ?_ _ | refine blk_drew ?_ | refine blk_alloc ?_ _)); refine blk_far ?_ NB420_429.out _; (with_reducible repeat (first | refine blk_drewN ?_ _ | refine blk_drew ?_ | refine blk_alloc ?_ _)); refine blk_far ?_ NB420_429.out _; (with_reducible repeat (first | refine blk_drewN ?_ _ | refine blk_drew ?_ | refine blk_alloc ?_ _)); refine blk_far ?_ NB420_429.out _; (with_reducible repeat (first | refine blk_drewN ?_ _ | refine blk_drew ?_ | refine blk_alloc ?_ _)); exact BK420.out) hb; replace BK429 := bB (g := gb429) (o := .cells #[.int .i64 t421, .slice Ao32 t422.length co32, .slice Ao33 t425.length co33, .int .i64 t428] 31 (0, 0)) (by (with_reducible repeat (first | refine blk_drewN ?_ _ | refine blk_drew ?_ | refine blk_alloc ?_ _)); refine blk_put (cs := #[.int .i64 t421, .slice Ao32 t422.length co32, .slice Ao33 t425.length co33, .int .i64 0]) ?_ 3 _ rfl; (with_reducible repeat (first | refine blk_drewN ?_ _ | refine blk_drew ?_ | refine blk_alloc ?_ _)); refine blk_put (cs := #[.int .i64 t421, .slice Ao32 t422.length co32, .slice none 0 0, .int .i64 0]) ?_ 2 _ rfl; (with_reducible repeat (first | refine blk_drewN ?_ _ | refine blk_drew ?_ | refine blk_alloc ?_ _)); refine blk_put (cs := #[.int .i64 t421, .slice none 0 0, .slice none 0 0, .int .i64 0]) ?_ 1 _ rfl; (with_reducible repeat (first | refine blk_drewN ?_ _ | refine blk_drew ?_ | refine blk_alloc ?_ _)); refine blk_put (cs := #[.int .i64 0, .slice none 0 0, .slice none 0 0, .int .i64 0]) ?_ 0 _ rfl; (with_reducible repeat (first | refine blk_drewN ?_ _ | refine blk_drew ?_ | refine blk_alloc ?_ _)); exact BK429.out) hb; replace HB := sB zq101 hb; clear hb; (try clear ho0); (try clear ho1)) | ((with_reducible refine gate_dst (N := 9) rfl ?_); refine box_event ?hg (N := 9) ?hd (cs := #[.int .i64 0, .slice none 0 0, .slice none 0 0, .int .i64 0]) (t := 31) ?hr ?_; (case hd => rfl); (case hg => rfl); (case hr => exact zq2); intro gb439 hg w35 hbox hb; replace HO406 := rB zq83 hb; replace HO409 := rB zq84 hb; replace HO414 := rB zq85 hb; replace HO417 := rB zq86 hb; replace HO424 := rB zq92 hb; replace HO427 := rB zq93 hb; replace HO433 := rB (by (with_reducible repeat (first | apply Kd.R_alloc | apply Kd.R_drewN | apply Kd.R_drew)); exact HO433.out) hb; replace HO436 := rB (by (with_reducible repeat (first | apply Kd.R_alloc | apply Kd.R_drewN | apply Kd.R_drew)); exact HO436.out) hb; have BK439 := Aside0.mk hbox; have GW439 := Aside0.mk (by rw [hg]; exact (below_size zq101) : w.heap.size ≤ gb439); have GE439 := Aside0.mk (by rw [hg]; exact (below_size zq101) : w.heap.size ≤ gb439); replace HB := sB zq101 hb; have NB401_439 := Aside0.mk (zq280 : gb401 ≠ gb439); have NB439_401 := Aside0.mk (zq281 : gb439 ≠ gb401); replace BK401 := bF BK401 zq81 hb; have NB420_439 := Aside0.mk (zq282 : gb420 ≠ gb439); have NB439_420 := Aside0.mk (zq283 : gb439 ≠ gb420); replace BK420 := bF BK420 zq94 hb; have NB429_439 := Aside0.mk (by rw [hg]; exact Nat.ne_of_lt (blk_lt (g := gb429) (o := .cells #[.int .i64 t421, .slice Ao32 t422.length co32, .slice Ao33 t425.length co33, .int .i64 t428] 31 (0, 0)) zq102) : gb429 ≠ gb439); have NB439_429 := Aside0.mk (by rw [hg]; exact Nat.ne_of_gt (blk_lt (g := gb429) (o := .cells #[.int .i64 t421, .slice Ao32 t422.length co32, .slice Ao33 t425.length co33, .int .i64 t428] 31 (0, 0)) zq102) : gb439 ≠ gb429); replace BK429 := bF BK429 zq102 hb; clear hb hbox hg; have hnb36 := NB439_401.out; have hnc36 := NB401_439.out; have hnb37 := NB439_420.out; have hnc37 := NB420_439.out; have hnb38 := NB439_429.out; have hnc38 := NB429_439.out; obtain ⟨hcz39_0, hcz39_1, hcz39_2, hcz39_3, hfz39_0, hfz39_1, hfz39_2, hfz39_3⟩ := c4 (w := w35) BK439; obtain ⟨Ao40, co40, eo40⟩ := Kd.R_slice HO433.out; subst eo40; obtain ⟨Ao41, co41, eo41⟩ := Kd.R_slice HO436.out; subst eo41))
 (try simp only [Act.put, List.setIfInBounds_toArray, List.set_cons_zero, List.set_cons_succ])
 go_cut [44] (fun v44 wc => ∃ (kq : Nat) (x44_11 : Bool), v44 = .bool x44_11 ∧ Aside0 (laws_FnExactAbort.j0 kq a1 t419 t438 x44_11 a0_0 l0_1 l0_2 a0_3 t411 t412 t415 t418 t421 t422 t425 t428 t430 t431 t434 t437 = some r) ∧ Aside0 (kq ≤ k) ∧ Aside0 (Kd.R k66 66 wc w.heap.size (fun k_ => some k_ ≠ ((.slice Ao32 t422.length co32) : Value).ownBlock ∧ some k_ ≠ ((.slice Ao40 t431.length co40) : Value).ownBlock) (.slice Ao24 t412.length co24) t412) ∧ Aside0 (Kd.R k68 68 wc w.heap.size (fun k_ => some k_ ≠ ((.slice Ao33 t425.length co33) : Value).ownBlock ∧ some k_ ≠ ((.slice Ao41 t434.length co41) : Value).ownBlock) (.slice Ao25 t415.length co25) t415) ∧ Aside0 (Kd.R k66 66 wc w.heap.size (fun k_ => some k_ ≠ ((.slice Ao24 t412.length co24) : Value).ownBlock ∧ some k_ ≠ ((.slice Ao40 t431.length co40) : Value).ownBlock) (.slice Ao32 t422.length co32) t422) ∧ Aside0 (Kd.R k68 68 wc w.heap.size (fun k_ => some k_ ≠ ((.slice Ao25 t415.length co25) : Value).ownBlock ∧ some k_ ≠ ((.slice Ao41 t434.length co41) : Value).ownBlock) (.slice Ao33 t425.length co33) t425) ∧ Aside0 (Kd.R k66 66 wc w.heap.size (fun k_ => some k_ ≠ ((.slice Ao24 t412.length co24) : Value).ownBlock ∧ some k_ ≠ ((.slice Ao32 t422.length co32) : Value).ownBlock) (.slice Ao40 t431.length co40) t431) ∧ Aside0 (Kd.R k68 68 wc w.heap.size (fun k_ => some k_ ≠ ((.slice Ao25 t415.length co25) : Value).ownBlock ∧ some k_ ≠ ((.slice Ao33 t425.length co33) : Value).ownBlock) (.slice Ao41 t434.length co41) t434) ∧ Aside0 (wc.heap[gb401]? = some (.cells #[.int .i64 a0_0, (.slice A0_1 l0_1.length c0_1), (.slice A0_2 l0_2.length c0_2), .int .i64 a0_3] 25 (0, 0))) ∧ Aside0 (wc.heap[gb420]? = some (.cells #[.int .i64 t411, (.slice Ao24 t412.length co24), (.slice Ao25 t415.length co25), .int .i64 t418] 31 (0, 0))) ∧ Aside0 (wc.heap[gb429]? = some (.cells #[.int .i64 t421, (.slice Ao32 t422.length co32), (.slice Ao33 t425.length co33), .int .i64 t428] 31 (0, 0))) ∧ Aside0 (wc.heap[gb439]? = some (.cells #[.int .i64 t430, (.slice Ao40 t431.length co40), (.slice Ao41 t434.length co41), .int .i64 t437] 31 (0, 0))) ∧ Aside0 (Below w.heap.size w wc))
 case first =>
  have H := HC12.out
  clear HC12
  replace H := Option.bind_eq_some_iff.mp H
  obtain ⟨t440, A420, H⟩ := H
  try dsimp only at H
  have A42 := Aside0.mk A420
  clear A420
  by_cases c43 : t440 = true
  ·
   subst c43
   have H1 : (laws_FnExactAbort.j0 k a1 t419 t438 (t438 != t419) a0_0 l0_1 l0_2 a0_3 t411 t412 t415 t418 t421 t422 t425 t428 t430 t431 t434 t437) = some r := by rw [if_pos rfl] at H; exact H
   clear H
   have H := H1
   clear H1
   have H' := Aside0.mk H
   clear H
   have hnb44 := NB439_401.out
   have hnc44 := NB401_439.out
   have hnb45 := NB439_420.out
   have hnc45 := NB420_439.out
   have hnb46 := NB439_429.out
   have hnc46 := NB429_439.out
   obtain ⟨hcz47_0, hcz47_1, hcz47_2, hcz47_3, hfz47_0, hfz47_1, hfz47_2, hfz47_3⟩ := c4 (w := w35) BK439
   have hnb48 := NB420_401.out
   have hnc48 := NB401_420.out
   have hnb49 := NB420_429.out
   have hnc49 := NB429_420.out
   obtain ⟨hcz50_0, hcz50_1, hcz50_2, hcz50_3, hfz50_0, hfz50_1, hfz50_2, hfz50_3⟩ := c4 (w := w35) BK420
   go_wp2_with (first | ((with_reducible refine gC 19 rfl ?_); refine gL 38 Try.func19 #[.agg #[.int .i64 t430, .slice Ao40 t431.length co40, .slice Ao41 t434.length co41, .int .i64 t437], .agg #[.int .i64 t411, .slice Ao24 t412.length co24, .slice Ao25 t415.length co25, .int .i64 t418]] ?_; (with_reducible refine (laws_eqStore.calls k t430 _ _ t431 _ _ t434 t437 t411 _ _ t412 _ _ t415 t418 true _ ?_ ?_ ?_ ?_ ?_ ?_ ?_ ?_ A42.out).mono ?_); exact zq284; exact (Kd.R_reads' HO433.out).2.1; exact zq285; exact (Kd.R_reads' HO436.out).2.1; exact zq286; exact (Kd.R_reads' HO414.out).2.1; exact zq287; exact (Kd.R_reads' HO417.out).2.1; rintro e w51 ⟨rfl, hb⟩; refine ⟨_, rfl, ?_⟩; replace HO406 := rB zq107 hb; replace HO409 := rB zq108 hb; replace HO414 := rB zq105 hb; replace HO417 := rB zq106 hb; replace HO424 := rB zq109 hb; replace HO427 := rB zq110 hb; replace HO433 := rB zq103 hb; replace HO436 := rB zq104 hb; replace BK401 := bF BK401 zq111 hb; replace BK420 := bF BK420 zq112 hb; replace BK429 := bF BK429 zq113 hb; replace BK439 := bB (g := gb439) (o := .cells #[.int .i64 t430, .slice Ao40 t431.length co40, .slice Ao41 t434.length co41, .int .i64 t437] 31 (0, 0)) zq114 hb; replace HB := sB zq115 hb; clear hb))
   go_meet
   case rel => exact ⟨_, ((t438 != t419)), zq6, H', ⟨zq51⟩, ⟨zq116⟩, ⟨zq117⟩, ⟨zq118⟩, ⟨zq119⟩, ⟨zq120⟩, ⟨zq121⟩, ⟨zq81⟩, ⟨zq94⟩, ⟨zq102⟩, ⟨zq122⟩, ⟨zq115⟩⟩
  replace c43 := Bool.eq_false_iff.mpr c43
  subst c43
  have H1 : (laws_FnExactAbort.j0 k a1 t419 t438 true a0_0 l0_1 l0_2 a0_3 t411 t412 t415 t418 t421 t422 t425 t428 t430 t431 t434 t437) = some r := by rw [if_neg (show ¬ (false = true) by decide)] at H; exact H
  clear H
  have H := H1
  clear H1
  have H' := Aside0.mk H
  clear H
  have hnb52 := NB439_401.out
  have hnc52 := NB401_439.out
  have hnb53 := NB439_420.out
  have hnc53 := NB420_439.out
  have hnb54 := NB439_429.out
  have hnc54 := NB429_439.out
  obtain ⟨hcz55_0, hcz55_1, hcz55_2, hcz55_3, hfz55_0, hfz55_1, hfz55_2, hfz55_3⟩ := c4 (w := w35) BK439
  have hnb56 := NB420_401.out
  have hnc56 := NB401_420.out
  have hnb57 := NB420_429.out
  have hnc57 := NB429_420.out
  obtain ⟨hcz58_0, hcz58_1, hcz58_2, hcz58_3, hfz58_0, hfz58_1, hfz58_2, hfz58_3⟩ := c4 (w := w35) BK420
  go_wp2_with (first | ((with_reducible refine gC 19 rfl ?_); refine gL 38 Try.func19 #[.agg #[.int .i64 t430, .slice Ao40 t431.length co40, .slice Ao41 t434.length co41, .int .i64 t437], .agg #[.int .i64 t411, .slice Ao24 t412.length co24, .slice Ao25 t415.length co25, .int .i64 t418]] ?_; (with_reducible refine (laws_eqStore.calls k t430 _ _ t431 _ _ t434 t437 t411 _ _ t412 _ _ t415 t418 false _ ?_ ?_ ?_ ?_ ?_ ?_ ?_ ?_ A42.out).mono ?_); exact zq284; exact (Kd.R_reads' HO433.out).2.1; exact zq285; exact (Kd.R_reads' HO436.out).2.1; exact zq286; exact (Kd.R_reads' HO414.out).2.1; exact zq287; exact (Kd.R_reads' HO417.out).2.1; rintro e w59 ⟨rfl, hb⟩; refine ⟨_, rfl, ?_⟩; replace HO406 := rB zq107 hb; replace HO409 := rB zq108 hb; replace HO414 := rB zq105 hb; replace HO417 := rB zq106 hb; replace HO424 := rB zq109 hb; replace HO427 := rB zq110 hb; replace HO433 := rB zq103 hb; replace HO436 := rB zq104 hb; replace BK401 := bF BK401 zq111 hb; replace BK420 := bF BK420 zq112 hb; replace BK429 := bF BK429 zq113 hb; replace BK439 := bB (g := gb439) (o := .cells #[.int .i64 t430, .slice Ao40 t431.length co40, .slice Ao41 t434.length co41, .int .i64 t437] 31 (0, 0)) zq114 hb; replace HB := sB zq115 hb; clear hb))
  go_meet
  case rel => exact ⟨_, (true), zq6, H', ⟨zq51⟩, ⟨zq116⟩, ⟨zq117⟩, ⟨zq118⟩, ⟨zq119⟩, ⟨zq120⟩, ⟨zq121⟩, ⟨zq81⟩, ⟨zq94⟩, ⟨zq102⟩, ⟨zq122⟩, ⟨zq115⟩⟩
 case rest =>
  clear HC12
  try clear c1
  try clear c2
  try clear p2
  try clear c3
  try clear c4
  try clear c4b0
  try clear c5
  try clear c8
  try clear c15
  try clear c17
  try clear c19
  try clear c22
  try clear c29
  try clear c30
  try clear c33
  try clear c34
  try clear c36
  try clear c37
  try clear c38
  try clear c43
  try clear c44
  try clear c45
  try clear c46
  try clear c48
  try clear c49
  try clear c52
  try clear c53
  try clear c54
  try clear c56
  try clear c57
  try clear hcz14_0
  try clear hcz14_1
  try clear hcz14_2
  try clear hcz14_3
  try clear hcz16_0
  try clear hcz16_1
  try clear hcz16_2
  try clear hcz16_3
  try clear hcz23_0
  try clear hcz23_1
  try clear hcz23_2
  try clear hcz23_3
  try clear hcz26_0
  try clear hcz26_1
  try clear hcz26_2
  try clear hcz26_3
  try clear hcz31_0
  try clear hcz31_1
  try clear hcz31_2
  try clear hcz31_3
  try clear hcz39_0
  try clear hcz39_1
  try clear hcz39_2
  try clear hcz39_3
  try clear hcz47_0
  try clear hcz47_1
  try clear hcz47_2
  try clear hcz47_3
  try clear hcz50_0
  try clear hcz50_1
  try clear hcz50_2
  try clear hcz50_3
  try clear hcz55_0
  try clear hcz55_1
  try clear hcz55_2
  try clear hcz55_3
  try clear hcz58_0
  try clear hcz58_1
  try clear hcz58_2
  try clear hcz58_3
  try clear hcz6_0
  try clear hcz6_1
  try clear hcz6_2
  try clear hcz6_3
  try clear hfz14_0
  try clear hfz14_1
  try clear hfz14_2
  try clear hfz14_3
  try clear hfz16_0
  try clear hfz16_1
  try clear hfz16_2
  try clear hfz16_3
  try clear hfz23_0
  try clear hfz23_1
  try clear hfz23_2
  try clear hfz23_3
  try clear hfz26_0
  try clear hfz26_1
  try clear hfz26_2
  try clear hfz26_3
  try clear hfz31_0
  try clear hfz31_1
  try clear hfz31_2
  try clear hfz31_3
  try clear hfz39_0
  try clear hfz39_1
  try clear hfz39_2
  try clear hfz39_3
  try clear hfz47_0
  try clear hfz47_1
  try clear hfz47_2
  try clear hfz47_3
  try clear hfz50_0
  try clear hfz50_1
  try clear hfz50_2
  try clear hfz50_3
  try clear hfz55_0
  try clear hfz55_1
  try clear hfz55_2
  try clear hfz55_3
  try clear hfz58_0
  try clear hfz58_1
  try clear hfz58_2
  try clear hfz58_3
  try clear hfz6_0
  try clear hfz6_1
  try clear hfz6_2
  try clear hfz6_3
  obtain ⟨kq, x44_11, rfl, HA, HJ11, HO_421001, HO_421002, HO_430001, HO_430002, HO_440001, HO_440002, BK401, BK420, BK429, BK439, HB⟩ := hcut
  cases kq with
  | zero => exact absurd HA.out (by simp [laws_FnExactAbort.j0])
  | succ kj11 =>
   have H := HA.out
   clear HA
   simp only [laws_FnExactAbort.j0] at H
   by_cases c60 : x44_11 = true
   ·
    subst c60
    have H1 : (some false) = some r := by rw [if_pos rfl] at H; exact H
    clear H
    have H := H1
    clear H1
    obtain rfl := Option.some.inj H
    go_wp2
    go_ret
    exact ⟨zq4, zq115⟩
   replace c60 := Bool.eq_false_iff.mpr c60
   subst c60
   have H1 : ((laws_toStore.f kj11 a0_0 l0_1 l0_2 a0_3).bind fun bt441 => ((laws_eqStore.f kj11 t421 t422 t425 t428 bt441.1 bt441.2.1 bt441.2.2.1 bt441.2.2.2).bind fun t449 => (if t449 = true then ((laws_markStore.f kj11 t421 t422 t425 t428 1).bind fun bt450 => (if bt450.1 < 0 then (laws_FnExactAbort.j1 kj11 a1 t419 true a0_0 l0_1 l0_2 a0_3 t411 t412 t415 t418 t430 t431 t434 t437) else ((laws_eqStore.f kj11 t430 t431 t434 t437 t411 t412 t415 t418).bind fun t453 => (if t453 = true then (laws_FnExactAbort.j1 kj11 a1 t419 (t438 != t419) a0_0 l0_1 l0_2 a0_3 t411 t412 t415 t418 t430 t431 t434 t437) else (laws_FnExactAbort.j1 kj11 a1 t419 true a0_0 l0_1 l0_2 a0_3 t411 t412 t415 t418 t430 t431 t434 t437))))) else (some false)))) = some r := by rw [if_neg (show ¬ (false = true) by decide)] at H; exact H
   clear H
   have H := H1
   clear H1
   replace H := Option.bind_eq_some_iff.mp H
   obtain ⟨⟨t441, t442, t445, t448⟩, A610, H⟩ := H
   try dsimp only at H
   have A61 := Aside0.mk A610
   clear A610
   replace H := Option.bind_eq_some_iff.mp H
   obtain ⟨t449, A620, H⟩ := H
   try dsimp only at H
   have A62 := Aside0.mk A620
   clear A620
   by_cases c63 : t449 = true
   ·
    subst c63
    have H1 : ((laws_markStore.f kj11 t421 t422 t425 t428 1).bind fun bt450 => (if bt450.1 < 0 then (laws_FnExactAbort.j1 kj11 a1 t419 true a0_0 l0_1 l0_2 a0_3 t411 t412 t415 t418 t430 t431 t434 t437) else ((laws_eqStore.f kj11 t430 t431 t434 t437 t411 t412 t415 t418).bind fun t453 => (if t453 = true then (laws_FnExactAbort.j1 kj11 a1 t419 (t438 != t419) a0_0 l0_1 l0_2 a0_3 t411 t412 t415 t418 t430 t431 t434 t437) else (laws_FnExactAbort.j1 kj11 a1 t419 true a0_0 l0_1 l0_2 a0_3 t411 t412 t415 t418 t430 t431 t434 t437))))) = some r := by rw [if_pos rfl] at H; exact H
    clear H
    have H := H1
    clear H1
    replace H := Option.bind_eq_some_iff.mp H
    obtain ⟨⟨t450, t451, t452⟩, A640, H⟩ := H
    try dsimp only at H
    have A64 := Aside0.mk A640
    clear A640
    have HC65 := Aside0.mk H
    clear H
    try go_wp2
    replace HO_421001 := Aside0.mk (Kd.R_drew HO_421001.out)
    replace HO_421002 := Aside0.mk (Kd.R_drew HO_421002.out)
    replace HO_430001 := Aside0.mk (Kd.R_drew HO_430001.out)
    replace HO_430002 := Aside0.mk (Kd.R_drew HO_430002.out)
    replace HO_440001 := Aside0.mk (Kd.R_drew HO_440001.out)
    replace HO_440002 := Aside0.mk (Kd.R_drew HO_440002.out)
    replace BK401 := Aside0.mk (blk_drew BK401.out)
    replace BK420 := Aside0.mk (blk_drew BK420.out)
    replace BK429 := Aside0.mk (blk_drew BK429.out)
    replace BK439 := Aside0.mk (blk_drew BK439.out)
    replace HB := Aside0.mk (below_drew1 HB.out)
    refine start_ (n := 5) (S := fun w' => w'.cell? ⟨gb429, 0, none⟩ = some (.int .i64 t421) ∧ w'.cell? ⟨gb429, 1, none⟩ = some (.slice Ao32 t422.length co32) ∧ w'.cell? ⟨gb429, 2, none⟩ = some (.slice Ao33 t425.length co33) ∧ w'.cell? ⟨gb429, 3, none⟩ = some (.int .i64 t428) ∧ w'.cell? ⟨gb401, 0, none⟩ = some (.int .i64 a0_0) ∧ w'.cell? ⟨gb401, 1, none⟩ = some (.slice A0_1 l0_1.length c0_1) ∧ w'.cell? ⟨gb401, 2, none⟩ = some (.slice A0_2 l0_2.length c0_2) ∧ w'.cell? ⟨gb401, 3, none⟩ = some (.int .i64 a0_3)) (ds := []) #[false, false, false, false, false] (by kernel_rfl) rfl rfl ⟨(blk_cell BK429.out 0).trans rfl, (blk_cell BK429.out 1).trans rfl, (blk_cell BK429.out 2).trans rfl, (blk_cell BK429.out 3).trans rfl, (blk_cell BK401.out 0).trans rfl, (blk_cell BK401.out 1).trans rfl, (blk_cell BK401.out 2).trans rfl, (blk_cell BK401.out 3).trans rfl⟩ (fun hHeld => ?_)
    generalize wc.drew = w66 at HO_421001 HO_421002 HO_430001 HO_430002 HO_440001 HO_440002 BK401 BK420 BK429 BK439 HB hHeld ⊢
    refine take_ (i := 0) (N := some 45) (v := ?_) (a' := ?_) #[true, false, false, false, false] rfl rfl (by kernel_rfl) (fun _ _ _ h => h) (Or.inl ⟨by rfl, ?_⟩) hHeld ?_ ?_
    rotate_left
    exact zq328
    rotate_left
    exact zq319
    refine take_ (i := 1) (N := some 46) (v := ?_) (a' := ?_) #[true, true, false, false, false] rfl rfl (by kernel_rfl) (fun _ _ _ h => h) (Or.inl ⟨by rfl, ?_⟩) hHeld ?_ ?_
    rotate_left
    exact zq328
    rotate_left
    exact zq319
    refine one_ (i := 2) (N := some 47) #[true, true, true, false, false] rfl rfl (by kernel_rfl) (by decide) (fun K hK => ?_)
    refine goes_ Try.func17 (by kernel_rfl) rfl #[.agg #[.int .i64 a0_0, .slice A0_1 l0_1.length c0_1, .slice A0_2 l0_2.length c0_2, .int .i64 a0_3]] (by rfl) rfl rfl zq8 ?_
    with_reducible refine (laws_toStore.calls kj11 a0_0 _ _ l0_1 _ _ l0_2 a0_3 t441 t442 t445 t448 _ ?side1 ?side2 ?side3 ?side4 A61.out).mono ?_
    (case side1 => exact zq11)
    (case side2 => exact zq12)
    (case side3 => exact zq15)
    (case side4 => exact zq16)
    rintro e w67 ⟨v443, v446, rfl, ho0, ho1, hb⟩
    refine ⟨_, rfl, ?_⟩
    have HO444 := Aside0.mk (Kd.R_lower (Kd.R_new' (Kd.R_new' (Kd.R_new' ho0 (Kd.R_lt zq123)) (Kd.R_lt zq125)) (Kd.R_lt zq127)) (below_size zq115))
    replace HO_421001 := Aside0.mk (Kd.R_elder' zq123 (Kd.R_base ho0) hb)
    replace HO_430001 := Aside0.mk (Kd.R_elder' zq125 (Kd.R_base ho0) hb)
    replace HO_440001 := Aside0.mk (Kd.R_elder' zq127 (Kd.R_base ho0) hb)
    have HO447 := Aside0.mk (Kd.R_lower (Kd.R_new' (Kd.R_new' (Kd.R_new' ho1 (Kd.R_lt zq124)) (Kd.R_lt zq126)) (Kd.R_lt zq128)) (below_size zq115))
    replace HO_421002 := Aside0.mk (Kd.R_elder' zq124 (Kd.R_base ho1) hb)
    replace HO_430002 := Aside0.mk (Kd.R_elder' zq126 (Kd.R_base ho1) hb)
    replace HO_440002 := Aside0.mk (Kd.R_elder' zq128 (Kd.R_base ho1) hb)
    replace BK401 := bF BK401 zq81 hb
    replace BK420 := bF BK420 zq94 hb
    replace BK429 := bF BK429 zq102 hb
    replace BK439 := bF BK439 zq122 hb
    replace HB := sB zq115 hb
    (try clear hb)
    (try clear hb2)
    (try clear hk)
    (try clear hi)
    (try clear ho0)
    (try clear ho1)
    obtain ⟨Ao68, co68, eo68⟩ := Kd.R_slice HO444.out
    (first | subst eo68 | (injection eo68 with f1_ f2_ f3_; have f4_ := f1_.symm; have f5_ := f3_.symm; clear f1_ f2_ f3_; subst f4_; subst f5_))
    obtain ⟨Ao69, co69, eo69⟩ := Kd.R_slice HO447.out
    (first | subst eo69 | (injection eo69 with f1_ f2_ f3_; have f4_ := f1_.symm; have f5_ := f3_.symm; clear f1_ f2_ f3_; subst f4_; subst f5_))
    refine hK.out _ _ ⟨(blk_cell BK429.out 0).trans rfl, (blk_cell BK429.out 1).trans rfl, (blk_cell BK429.out 2).trans rfl, (blk_cell BK429.out 3).trans rfl, (blk_cell BK401.out 0).trans rfl, (blk_cell BK401.out 1).trans rfl, (blk_cell BK401.out 2).trans rfl, (blk_cell BK401.out 3).trans rfl⟩ (fun hHeld => ?_)
    clear hK K
    refine norm_ (a' := ?_) ?_ ?_
    rotate_left
    ·
     show Act.put _ (some 47) _ = _
     simp only [Act.put, List.setIfInBounds_toArray, List.set_cons_zero, List.set_cons_succ, i64_w, i32_w]
     rfl
    refine one_ (i := 3) (N := some 48) #[true, true, true, true, false] rfl rfl (by kernel_rfl) (by decide) (fun K hK => ?_)
    refine goes_ Try.func19 (by kernel_rfl) rfl #[.agg #[.int .i64 t421, .slice Ao32 t422.length co32, .slice Ao33 t425.length co33, .int .i64 t428], .agg #[.int .i64 t441, .slice Ao68 t442.length co68, .slice Ao69 t445.length co69, .int .i64 t448]] (by rfl) rfl rfl zq8 ?_
    with_reducible refine (laws_eqStore.calls kj11 t421 _ _ t422 _ _ t425 t428 t441 _ _ t442 _ _ t445 t448 true _ ?side1 ?side2 ?side3 ?side4 ?side5 ?side6 ?side7 ?side8 A62.out).mono ?_
    (case side1 => exact zq129)
    (case side2 => exact (Kd.R_reads' HO_430001.out).2.1)
    (case side3 => exact zq130)
    (case side4 => exact (Kd.R_reads' HO_430002.out).2.1)
    (case side5 => exact zq131)
    (case side6 => exact (Kd.R_reads' HO444.out).2.1)
    (case side7 => exact zq132)
    (case side8 => exact (Kd.R_reads' HO447.out).2.1)
    rintro e w70 ⟨rfl, hb⟩
    refine ⟨_, rfl, ?_⟩
    replace HO_421001 := rB zq123 hb
    replace HO_421002 := rB zq124 hb
    replace HO_430001 := rB zq125 hb
    replace HO_430002 := rB zq126 hb
    replace HO_440001 := rB zq127 hb
    replace HO_440002 := rB zq128 hb
    replace HO444 := rB zq133 hb
    replace HO447 := rB zq134 hb
    replace BK401 := bF BK401 zq81 hb
    replace BK420 := bF BK420 zq94 hb
    replace BK429 := bF BK429 zq102 hb
    replace BK439 := bF BK439 zq122 hb
    replace HB := sB zq115 hb
    (try clear hb)
    (try clear hb2)
    (try clear hk)
    (try clear hi)
    refine hK.out _ _ ⟨(blk_cell BK429.out 0).trans rfl, (blk_cell BK429.out 1).trans rfl, (blk_cell BK429.out 2).trans rfl, (blk_cell BK429.out 3).trans rfl, (blk_cell BK401.out 0).trans rfl, (blk_cell BK401.out 1).trans rfl, (blk_cell BK401.out 2).trans rfl, (blk_cell BK401.out 3).trans rfl⟩ (fun hHeld => ?_)
    clear hK K
    refine norm_ (a' := ?_) ?_ ?_
    rotate_left
    ·
     show Act.put _ (some 48) _ = _
     simp only [Act.put, List.setIfInBounds_toArray, List.set_cons_zero, List.set_cons_succ, i64_w, i32_w]
     rfl
    refine pure_ (i := 4) (N := some 49) (v := ?_) (a' := ?_) #[true, true, true, true, true] rfl rfl (by kernel_rfl) (fun _ _ _ h => h) (Or.inl ⟨by rfl, ?_⟩) ?_ ?_
    rotate_left
    exact zq318
    rotate_left
    exact zq319
    refine done_ (by kernel_rfl) ?_
    have hnb71 := NB429_401.out
    have hnc71 := NB401_429.out
    have hnb72 := NB429_420.out
    have hnc72 := NB420_429.out
    have hnb73 := NB429_439.out
    have hnc73 := NB439_429.out
    obtain ⟨hcz74_0, hcz74_1, hcz74_2, hcz74_3, hfz74_0, hfz74_1, hfz74_2, hfz74_3⟩ := c4 (w := w70) BK429
    go_upto_region 14 with (first | ((with_reducible refine gC 27 rfl ?_); refine gL 52 Try.func27 #[.agg #[.int .i64 t421, .slice Ao32 t422.length co32, .slice Ao33 t425.length co33, .int .i64 t428], .int .i64 1] ?_; (with_reducible refine (laws_markStore.calls kj11 t421 (fun k_ => some k_ = (.slice Ao32 t422.length co32 : Value).ownBlock) (.slice Ao32 t422.length co32) t422 (fun k_ => some k_ = (.slice Ao33 t425.length co33 : Value).ownBlock) (.slice Ao33 t425.length co33) t425 t428 1 t450 t451 t452 w _ ?_ ?_ ?_ A64.out).mono ?_); exact zq115; exact Kd.R_tight rfl HO_430001.out; exact Kd.R_tight rfl HO_430002.out; rintro e w75 ⟨rfl, hy0, hy1, hb, hkp⟩; refine ⟨_, rfl, ?_⟩; replace HO_421001 := Aside0.mk (Kd.R_mono (ok' := fun k_ => some k_ ≠ (.slice Ao32 t422.length co32 : Value).ownBlock ∧ some k_ ≠ (.slice Ao40 t431.length co40 : Value).ownBlock ∧ some k_ ≠ (.slice Ao68 t442.length co68 : Value).ownBlock) (Kd.R_keptB ((Kd.R_apart' HO_421001.out (Kd.R_typed HO_430002.out) (by decide))) hkp (fun k_ hk_ hs_ => Or.elim hs_ (fun e_ => by first | exact hk_.1.1.1 e_ | exact hk_.1.1 e_ | exact hk_.1.2 e_ | exact hk_.1.1.2 e_ | exact hk_.1.2.1 e_ | exact hk_.1.2.2 e_ | exact hk_.2 e_ | simp_all) (fun e_ => by first | exact hk_.2 e_ | exact hk_.1.1 e_ | exact hk_.1.2 e_ | exact hk_.1.1.1 e_ | exact hk_.1.1.2 e_ | exact hk_.1.2.1 e_ | exact hk_.1.2.2 e_ | simp_all))) (fun k_ hk_ => by first | exact ⟨hk_.1.1.1.1, hk_.1.1.1.2, hk_.1.1.2⟩ | simp_all)); replace HO_421002 := Aside0.mk (Kd.R_mono (ok' := fun k_ => some k_ ≠ (.slice Ao33 t425.length co33 : Value).ownBlock ∧ some k_ ≠ (.slice Ao41 t434.length co41 : Value).ownBlock ∧ some k_ ≠ (.slice Ao69 t445.length co69 : Value).ownBlock) (Kd.R_keptB ((Kd.R_apart' HO_421002.out (Kd.R_typed HO_430001.out) (by decide))) hkp (fun k_ hk_ hs_ => Or.elim hs_ (fun e_ => by first | exact hk_.2 e_ | exact hk_.1.1 e_ | exact hk_.1.2 e_ | exact hk_.1.1.1 e_ | exact hk_.1.1.2 e_ | exact hk_.1.2.1 e_ | exact hk_.1.2.2 e_ | simp_all) (fun e_ => by first | exact hk_.1.1.1 e_ | exact hk_.1.1 e_ | exact hk_.1.2 e_ | exact hk_.1.1.2 e_ | exact hk_.1.2.1 e_ | exact hk_.1.2.2 e_ | exact hk_.2 e_ | simp_all))) (fun k_ hk_ => by first | exact ⟨hk_.1.1.1.1, hk_.1.1.1.2, hk_.1.1.2⟩ | simp_all)); replace HO_440001 := Aside0.mk (Kd.R_mono (ok' := fun k_ => some k_ ≠ (.slice Ao24 t412.length co24 : Value).ownBlock ∧ some k_ ≠ (.slice Ao32 t422.length co32 : Value).ownBlock ∧ some k_ ≠ (.slice Ao68 t442.length co68 : Value).ownBlock) (Kd.R_keptB ((Kd.R_apart' HO_440001.out (Kd.R_typed HO_430002.out) (by decide))) hkp (fun k_ hk_ hs_ => Or.elim hs_ (fun e_ => by first | exact hk_.1.1.2 e_ | exact hk_.1.1 e_ | exact hk_.1.2 e_ | exact hk_.1.1.1 e_ | exact hk_.1.2.1 e_ | exact hk_.1.2.2 e_ | exact hk_.2 e_ | simp_all) (fun e_ => by first | exact hk_.2 e_ | exact hk_.1.1 e_ | exact hk_.1.2 e_ | exact hk_.1.1.1 e_ | exact hk_.1.1.2 e_ | exact hk_.1.2.1 e_ | exact hk_.1.2.2 e_ | simp_all))) (fun k_ hk_ => by first | exact ⟨hk_.1.1.1.1, hk_.1.1.1.2, hk_.1.1.2⟩ | simp_all)); replace HO_440002 := Aside0.mk (Kd.R_mono (ok' := fun k_ => some k_ ≠ (.slice Ao25 t415.length co25 : Value).ownBlock ∧ some k_ ≠ (.slice Ao33 t425.length co33 : Value).ownBlock ∧ some k_ ≠ (.slice Ao69 t445.length co69 : Value).ownBlock) (Kd.R_keptB ((Kd.R_apart' HO_440002.out (Kd.R_typed HO_430001.out) (by decide))) hkp (fun k_ hk_ hs_ => Or.elim hs_ (fun e_ => by first | exact hk_.2 e_ | exact hk_.1.1 e_ | exact hk_.1.2 e_ | exact hk_.1.1.1 e_ | exact hk_.1.1.2 e_ | exact hk_.1.2.1 e_ | exact hk_.1.2.2 e_ | simp_all) (fun e_ => by first | exact hk_.1.1.2 e_ | exact hk_.1.1 e_ | exact hk_.1.2 e_ | exact hk_.1.1.1 e_ | exact hk_.1.2.1 e_ | exact hk_.1.2.2 e_ | exact hk_.2 e_ | simp_all))) (fun k_ hk_ => by first | exact ⟨hk_.1.1.1.1, hk_.1.1.1.2, hk_.1.1.2⟩ | simp_all)); replace BK401 := Aside0.mk (blk_kept zq135 hkp (fun hs_ => Or.elim hs_ (fun e_ => (fun e_ => (Kd.R_ne HO_430001.out BK401.out (by decide)) e_) e_) (fun e_ => (fun e_ => (Kd.R_ne HO_430002.out BK401.out (by decide)) e_) e_))); replace BK420 := Aside0.mk (blk_kept zq136 hkp (fun hs_ => Or.elim hs_ (fun e_ => (fun e_ => (Kd.R_ne HO_430001.out BK420.out (by decide)) e_) e_) (fun e_ => (fun e_ => (Kd.R_ne HO_430002.out BK420.out (by decide)) e_) e_))); replace BK429 := Aside0.mk (blk_kept zq137 hkp (fun hs_ => Or.elim hs_ (fun e_ => (fun e_ => (Kd.R_ne HO_430001.out BK429.out (by decide)) e_) e_) (fun e_ => (fun e_ => (Kd.R_ne HO_430002.out BK429.out (by decide)) e_) e_))); replace BK439 := Aside0.mk (blk_kept zq138 hkp (fun hs_ => Or.elim hs_ (fun e_ => (fun e_ => (Kd.R_ne HO_430001.out BK439.out (by decide)) e_) e_) (fun e_ => (fun e_ => (Kd.R_ne HO_430002.out BK439.out (by decide)) e_) e_))); replace HO444 := Aside0.mk (Kd.R_mono (ok' := fun k_ => some k_ ≠ (.slice Ao24 t412.length co24 : Value).ownBlock ∧ some k_ ≠ (.slice Ao32 t422.length co32 : Value).ownBlock ∧ some k_ ≠ (.slice Ao40 t431.length co40 : Value).ownBlock) (Kd.R_keptB ((Kd.R_apart' HO444.out (Kd.R_typed HO_430002.out) (by decide))) hkp (fun k_ hk_ hs_ => Or.elim hs_ (fun e_ => by first | exact hk_.1.1.2 e_ | exact hk_.1.1 e_ | exact hk_.1.2 e_ | exact hk_.1.1.1 e_ | exact hk_.1.2.1 e_ | exact hk_.1.2.2 e_ | exact hk_.2 e_ | simp_all) (fun e_ => by first | exact hk_.2 e_ | exact hk_.1.1 e_ | exact hk_.1.2 e_ | exact hk_.1.1.1 e_ | exact hk_.1.1.2 e_ | exact hk_.1.2.1 e_ | exact hk_.1.2.2 e_ | simp_all))) (fun k_ hk_ => by first | exact ⟨hk_.1.1.1.1.2, hk_.1.1.1.2, hk_.1.1.2⟩ | simp_all)); replace HO_430002 := Aside0.mk (Kd.R_reok rfl hy1 (fun k_ e_ => HO_430002.out.1 k_ e_)); replace HO447 := Aside0.mk (Kd.R_mono (ok' := fun k_ => some k_ ≠ (.slice Ao25 t415.length co25 : Value).ownBlock ∧ some k_ ≠ (.slice Ao33 t425.length co33 : Value).ownBlock ∧ some k_ ≠ (.slice Ao41 t434.length co41 : Value).ownBlock) (Kd.R_keptB ((Kd.R_apart' HO447.out (Kd.R_typed HO_430001.out) (by decide))) hkp (fun k_ hk_ hs_ => Or.elim hs_ (fun e_ => by first | exact hk_.2 e_ | exact hk_.1.1 e_ | exact hk_.1.2 e_ | exact hk_.1.1.1 e_ | exact hk_.1.1.2 e_ | exact hk_.1.2.1 e_ | exact hk_.1.2.2 e_ | simp_all) (fun e_ => by first | exact hk_.1.1.2 e_ | exact hk_.1.1 e_ | exact hk_.1.2 e_ | exact hk_.1.1.1 e_ | exact hk_.1.2.1 e_ | exact hk_.1.2.2 e_ | exact hk_.2 e_ | simp_all))) (fun k_ hk_ => by first | exact ⟨hk_.1.1.1.1.2, hk_.1.1.1.2, hk_.1.1.2⟩ | simp_all)); replace HO_430001 := Aside0.mk (Kd.R_reok rfl hy0 (fun k_ e_ => HO_430001.out.1 k_ e_)); replace HB := Aside0.mk hb; clear hb; (try clear hkp); (try clear hy0); (try clear hy1)))
    (try simp only [Act.put, List.setIfInBounds_toArray, List.set_cons_zero, List.set_cons_succ])
    go_cut [65] (fun v65 wc => ∃ (kq : Nat) (x65_64 : Bool), v65 = .bool x65_64 ∧ Aside0 (laws_FnExactAbort.j1 kq a1 t419 x65_64 a0_0 l0_1 l0_2 a0_3 t411 t412 t415 t418 t430 t431 t434 t437 = some r) ∧ Aside0 (kq ≤ kj11) ∧ Aside0 (Kd.R k66 66 wc w.heap.size (fun k_ => some k_ ≠ ((.slice Ao32 t422.length co32) : Value).ownBlock ∧ some k_ ≠ ((.slice Ao40 t431.length co40) : Value).ownBlock) (.slice Ao24 t412.length co24) t412) ∧ Aside0 (Kd.R k68 68 wc w.heap.size (fun k_ => some k_ ≠ ((.slice Ao33 t425.length co33) : Value).ownBlock ∧ some k_ ≠ ((.slice Ao41 t434.length co41) : Value).ownBlock) (.slice Ao25 t415.length co25) t415) ∧ Aside0 (Kd.R k66 66 wc w.heap.size (fun k_ => some k_ ≠ ((.slice Ao24 t412.length co24) : Value).ownBlock ∧ some k_ ≠ ((.slice Ao40 t431.length co40) : Value).ownBlock) (.slice Ao32 t422.length co32) t451) ∧ Aside0 (Kd.R k68 68 wc w.heap.size (fun k_ => some k_ ≠ ((.slice Ao25 t415.length co25) : Value).ownBlock ∧ some k_ ≠ ((.slice Ao41 t434.length co41) : Value).ownBlock) (.slice Ao33 t425.length co33) t452) ∧ Aside0 (Kd.R k66 66 wc w.heap.size (fun k_ => some k_ ≠ ((.slice Ao24 t412.length co24) : Value).ownBlock ∧ some k_ ≠ ((.slice Ao32 t422.length co32) : Value).ownBlock) (.slice Ao40 t431.length co40) t431) ∧ Aside0 (Kd.R k68 68 wc w.heap.size (fun k_ => some k_ ≠ ((.slice Ao25 t415.length co25) : Value).ownBlock ∧ some k_ ≠ ((.slice Ao33 t425.length co33) : Value).ownBlock) (.slice Ao41 t434.length co41) t434) ∧ Aside0 (wc.heap[gb401]? = some (.cells #[.int .i64 a0_0, (.slice A0_1 l0_1.length c0_1), (.slice A0_2 l0_2.length c0_2), .int .i64 a0_3] 25 (0, 0))) ∧ Aside0 (wc.heap[gb420]? = some (.cells #[.int .i64 t411, (.slice Ao24 t412.length co24), (.slice Ao25 t415.length co25), .int .i64 t418] 31 (0, 0))) ∧ Aside0 (wc.heap[gb429]? = some (.cells #[.int .i64 t421, (.slice Ao32 t422.length co32), (.slice Ao33 t425.length co33), .int .i64 t428] 31 (0, 0))) ∧ Aside0 (wc.heap[gb439]? = some (.cells #[.int .i64 t430, (.slice Ao40 t431.length co40), (.slice Ao41 t434.length co41), .int .i64 t437] 31 (0, 0))) ∧ Aside0 (Below w.heap.size w wc))
    case first =>
     have H := HC65.out
     clear HC65
     by_cases c76 : t450 < 0
     ·
      rw [if_pos c76] at H
      have c76b0 := decide_eq_true c76
      clear c76
      (first | rw [c76b0] | (simp only [i64_w, i32_w]; rw [c76b0]) | skip)
      have H' := Aside0.mk H
      clear H
      go_wp2
      go_meet
      case rel => exact ⟨_, (true), zq6, H', ⟨zq139⟩, ⟨zq140⟩, ⟨zq141⟩, ⟨zq142⟩, ⟨zq143⟩, ⟨zq144⟩, ⟨zq145⟩, ⟨zq81⟩, ⟨zq94⟩, ⟨zq102⟩, ⟨zq122⟩, ⟨zq115⟩⟩
     rw [if_neg c76] at H
     have c76b0 := decide_eq_false c76
     clear c76
     (first | rw [c76b0] | (simp only [i64_w, i32_w]; rw [c76b0]) | skip)
     replace H := Option.bind_eq_some_iff.mp H
     obtain ⟨t453, A770, H⟩ := H
     try dsimp only at H
     have A77 := Aside0.mk A770
     clear A770
     by_cases c78 : t453 = true
     ·
      subst c78
      have H1 : (laws_FnExactAbort.j1 kj11 a1 t419 (t438 != t419) a0_0 l0_1 l0_2 a0_3 t411 t412 t415 t418 t430 t431 t434 t437) = some r := by rw [if_pos rfl] at H; exact H
      clear H
      have H := H1
      clear H1
      have H' := Aside0.mk H
      clear H
      have hnb79 := NB439_401.out
      have hnc79 := NB401_439.out
      have hnb80 := NB439_420.out
      have hnc80 := NB420_439.out
      have hnb81 := NB439_429.out
      have hnc81 := NB429_439.out
      obtain ⟨hcz82_0, hcz82_1, hcz82_2, hcz82_3, hfz82_0, hfz82_1, hfz82_2, hfz82_3⟩ := c4 (w := w75) BK439
      have hnb83 := NB420_401.out
      have hnc83 := NB401_420.out
      have hnb84 := NB420_429.out
      have hnc84 := NB429_420.out
      obtain ⟨hcz85_0, hcz85_1, hcz85_2, hcz85_3, hfz85_0, hfz85_1, hfz85_2, hfz85_3⟩ := c4 (w := w75) BK420
      go_wp2_with (first | (go_at_call 19; (with_reducible refine (laws_eqStore.calls kj11 t430 _ _ t431 _ _ t434 t437 t411 _ _ t412 _ _ t415 t418 true _ ?_ ?_ ?_ ?_ ?_ ?_ ?_ ?_ A77.out).mono ?_); exact zq146; exact zq147; exact zq148; exact zq149; exact zq150; exact zq151; exact zq152; exact zq153; rintro e w86 ⟨rfl, hb⟩; replace HO_421001 := rB zq123 hb; replace HO_421002 := rB zq124 hb; replace HO_430001 := rB zq125 hb; replace HO_430002 := rB zq126 hb; replace HO_440001 := rB zq127 hb; replace HO_440002 := rB zq128 hb; replace HO444 := rB zq133 hb; replace HO447 := rB zq134 hb; replace BK401 := bF BK401 zq81 hb; replace BK420 := bF BK420 zq94 hb; replace BK429 := bF BK429 zq102 hb; replace BK439 := bF BK439 zq122 hb; replace HB := sB zq115 hb; clear hb))
      go_meet
      case rel => exact ⟨_, ((t438 != t419)), zq6, H', ⟨zq139⟩, ⟨zq140⟩, ⟨zq141⟩, ⟨zq142⟩, ⟨zq143⟩, ⟨zq144⟩, ⟨zq145⟩, ⟨zq81⟩, ⟨zq94⟩, ⟨zq102⟩, ⟨zq122⟩, ⟨zq115⟩⟩
     replace c78 := Bool.eq_false_iff.mpr c78
     subst c78
     have H1 : (laws_FnExactAbort.j1 kj11 a1 t419 true a0_0 l0_1 l0_2 a0_3 t411 t412 t415 t418 t430 t431 t434 t437) = some r := by rw [if_neg (show ¬ (false = true) by decide)] at H; exact H
     clear H
     have H := H1
     clear H1
     have H' := Aside0.mk H
     clear H
     have hnb87 := NB439_401.out
     have hnc87 := NB401_439.out
     have hnb88 := NB439_420.out
     have hnc88 := NB420_439.out
     have hnb89 := NB439_429.out
     have hnc89 := NB429_439.out
     obtain ⟨hcz90_0, hcz90_1, hcz90_2, hcz90_3, hfz90_0, hfz90_1, hfz90_2, hfz90_3⟩ := c4 (w := w75) BK439
     have hnb91 := NB420_401.out
     have hnc91 := NB401_420.out
     have hnb92 := NB420_429.out
     have hnc92 := NB429_420.out
     obtain ⟨hcz93_0, hcz93_1, hcz93_2, hcz93_3, hfz93_0, hfz93_1, hfz93_2, hfz93_3⟩ := c4 (w := w75) BK420
     go_wp2_with (first | (go_at_call 19; (with_reducible refine (laws_eqStore.calls kj11 t430 _ _ t431 _ _ t434 t437 t411 _ _ t412 _ _ t415 t418 false _ ?_ ?_ ?_ ?_ ?_ ?_ ?_ ?_ A77.out).mono ?_); exact zq146; exact zq147; exact zq148; exact zq149; exact zq150; exact zq151; exact zq152; exact zq153; rintro e w94 ⟨rfl, hb⟩; replace HO_421001 := rB zq123 hb; replace HO_421002 := rB zq124 hb; replace HO_430001 := rB zq125 hb; replace HO_430002 := rB zq126 hb; replace HO_440001 := rB zq127 hb; replace HO_440002 := rB zq128 hb; replace HO444 := rB zq133 hb; replace HO447 := rB zq134 hb; replace BK401 := bF BK401 zq81 hb; replace BK420 := bF BK420 zq94 hb; replace BK429 := bF BK429 zq102 hb; replace BK439 := bF BK439 zq122 hb; replace HB := sB zq115 hb; clear hb))
     go_meet
     case rel => exact ⟨_, (true), zq6, H', ⟨zq139⟩, ⟨zq140⟩, ⟨zq141⟩, ⟨zq142⟩, ⟨zq143⟩, ⟨zq144⟩, ⟨zq145⟩, ⟨zq81⟩, ⟨zq94⟩, ⟨zq102⟩, ⟨zq122⟩, ⟨zq115⟩⟩
    case rest =>
     clear HC65
     try clear c1
     try clear c2
     try clear p2
     try clear c3
     try clear c4
     try clear c4b0
     try clear c5
     try clear c6
     try clear c7
     try clear c8
     try clear c9
     try clear c15
     try clear c17
     try clear c19
     try clear c22
     try clear c27
     try clear c29
     try clear c30
     try clear c33
     try clear c34
     try clear c36
     try clear c37
     try clear c38
     try clear c43
     try clear c44
     try clear c45
     try clear c46
     try clear c48
     try clear c49
     try clear c52
     try clear c53
     try clear c54
     try clear c56
     try clear c57
     try clear c60
     try clear c63
     try clear c71
     try clear c72
     try clear c73
     try clear c76
     try clear c76b0
     try clear c78
     try clear c79
     try clear c80
     try clear c81
     try clear c83
     try clear c84
     try clear c87
     try clear c88
     try clear c89
     try clear c91
     try clear c92
     try clear hcz14_0
     try clear hcz14_1
     try clear hcz14_2
     try clear hcz14_3
     try clear hcz16_0
     try clear hcz16_1
     try clear hcz16_2
     try clear hcz16_3
     try clear hcz23_0
     try clear hcz23_1
     try clear hcz23_2
     try clear hcz23_3
     try clear hcz26_0
     try clear hcz26_1
     try clear hcz26_2
     try clear hcz26_3
     try clear hcz31_0
     try clear hcz31_1
     try clear hcz31_2
     try clear hcz31_3
     try clear hcz39_0
     try clear hcz39_1
     try clear hcz39_2
     try clear hcz39_3
     try clear hcz47_0
     try clear hcz47_1
     try clear hcz47_2
     try clear hcz47_3
     try clear hcz50_0
     try clear hcz50_1
     try clear hcz50_2
     try clear hcz50_3
     try clear hcz55_0
     try clear hcz55_1
     try clear hcz55_2
     try clear hcz55_3
     try clear hcz58_0
     try clear hcz58_1
     try clear hcz58_2
     try clear hcz58_3
     try clear hcz6_0
     try clear hcz6_1
     try clear hcz6_2
     try clear hcz6_3
     try clear hcz74_0
     try clear hcz74_1
     try clear hcz74_2
     try clear hcz74_3
     try clear hcz82_0
     try clear hcz82_1
     try clear hcz82_2
     try clear hcz82_3
     try clear hcz85_0
     try clear hcz85_1
     try clear hcz85_2
     try clear hcz85_3
     try clear hcz90_0
     try clear hcz90_1
     try clear hcz90_2
     try clear hcz90_3
     try clear hcz93_0
     try clear hcz93_1
     try clear hcz93_2
     try clear hcz93_3
     try clear hfz14_0
     try clear hfz14_1
     try clear hfz14_2
     try clear hfz14_3
     try clear hfz16_0
     try clear hfz16_1
     try clear hfz16_2
     try clear hfz16_3
     try clear hfz23_0
     try clear hfz23_1
     try clear hfz23_2
     try clear hfz23_3
     try clear hfz26_0
     try clear hfz26_1
     try clear hfz26_2
     try clear hfz26_3
     try clear hfz31_0
     try clear hfz31_1
     try clear hfz31_2
     try clear hfz31_3
     try clear hfz39_0
     try clear hfz39_1
     try clear hfz39_2
     try clear hfz39_3
     try clear hfz47_0
     try clear hfz47_1
     try clear hfz47_2
     try clear hfz47_3
     try clear hfz50_0
     try clear hfz50_1
     try clear hfz50_2
     try clear hfz50_3
     try clear hfz55_0
     try clear hfz55_1
     try clear hfz55_2
     try clear hfz55_3
     try clear hfz58_0
     try clear hfz58_1
     try clear hfz58_2
     try clear hfz58_3
     try clear hfz6_0
     try clear hfz6_1
     try clear hfz6_2
     try clear hfz6_3
     try clear hfz74_0
     try clear hfz74_1
     try clear hfz74_2
     try clear hfz74_3
     try clear hfz82_0
     try clear hfz82_1
     try clear hfz82_2
     try clear hfz82_3
     try clear hfz85_0
     try clear hfz85_1
     try clear hfz85_2
     try clear hfz85_3
     try clear hfz90_0
     try clear hfz90_1
     try clear hfz90_2
     try clear hfz90_3
     try clear hfz93_0
     try clear hfz93_1
     try clear hfz93_2
     try clear hfz93_3
     try clear p2
     obtain ⟨kq, x65_64, rfl, HA, HJ64, HO_421001, HO_421002, HO_430001, HO_430002, HO_440001, HO_440002, BK401, BK420, BK429, BK439, HB⟩ := hcut
     have hl430001_64 := (Kd.R_reads' HO_430001.out).1
     rw [hl430001_64] at HO_430001
     (try simp only [hl430001_64])
     (try simp only [hl430001_64] at BK401)
     (try simp only [hl430001_64] at BK420)
     (try simp only [hl430001_64] at BK429)
     (try simp only [hl430001_64] at BK439)
     (try simp only [hl430001_64] at HO_421001)
     (try simp only [hl430001_64] at HO_421002)
     (try simp only [hl430001_64] at HO_430002)
     (try simp only [hl430001_64] at HO_440001)
     (try simp only [hl430001_64] at HO_440002)
     have hl430002_64 := (Kd.R_reads' HO_430002.out).1
     rw [hl430002_64] at HO_430002
     (try simp only [hl430002_64])
     (try simp only [hl430002_64] at BK401)
     (try simp only [hl430002_64] at BK420)
     (try simp only [hl430002_64] at BK429)
     (try simp only [hl430002_64] at BK439)
     (try simp only [hl430002_64] at HO_421001)
     (try simp only [hl430002_64] at HO_421002)
     (try simp only [hl430002_64] at HO_430001)
     (try simp only [hl430002_64] at HO_440001)
     (try simp only [hl430002_64] at HO_440002)
     cases kq with
     | zero => exact absurd HA.out (by simp [laws_FnExactAbort.j1])
     | succ kj64 =>
      have H := HA.out
      clear HA
      simp only [laws_FnExactAbort.j1] at H
      by_cases c95 : x65_64 = true
      ·
       subst c95
       have H1 : (some false) = some r := by rw [if_pos rfl] at H; exact H
       clear H
       have H := H1
       clear H1
       obtain rfl := Option.some.inj H
       go_wp2
       go_ret
       exact ⟨zq4, zq115⟩
      replace c95 := Bool.eq_false_iff.mpr c95
      subst c95
      have H1 : ((laws_markStore.f kj64 t430 t431 t434 t437 1).bind fun bt454 => ((laws_heldStore.f kj64 t430 bt454.2.1 bt454.2.2 t437 1).bind fun t457 => (if t457 < 0 then (some false) else (if t457 = bt454.1 then ((laws_toStore.f kj64 a0_0 l0_1 l0_2 a0_3).bind fun bt458 => ((impl_Abort.f kj64 bt458.1 bt458.2.1 bt458.2.2.1 bt458.2.2.2 a1).bind fun bt466 => ((laws_eqStore.f kj64 bt466.1 bt466.2.1 bt466.2.2.1 bt466.2.2.2.1 t411 t412 t415 t418).bind fun t476 => (if t476 = true then (laws_FnExactAbort.j2 kj64 bt454.1 (bt466.2.2.2.2 != t419) t430 bt454.2.1 bt454.2.2 t437) else (laws_FnExactAbort.j2 kj64 bt454.1 true t430 bt454.2.1 bt454.2.2 t437))))) else (some false))))) = some r := by rw [if_neg (show ¬ (false = true) by decide)] at H; exact H
      clear H
      have H := H1
      clear H1
      replace H := Option.bind_eq_some_iff.mp H
      obtain ⟨⟨t454, t455, t456⟩, A960, H⟩ := H
      try dsimp only at H
      have A96 := Aside0.mk A960
      clear A960
      replace H := Option.bind_eq_some_iff.mp H
      obtain ⟨t457, A970, H⟩ := H
      try dsimp only at H
      have A97 := Aside0.mk A970
      clear A970
      by_cases c98 : t457 < 0
      ·
       rw [if_pos c98] at H
       have c98b0 := decide_eq_true c98
       clear c98
       obtain rfl := Option.some.inj H
       have hnb99 := NB439_401.out
       have hnc99 := NB401_439.out
       have hnb100 := NB439_420.out
       have hnc100 := NB420_439.out
       have hnb101 := NB439_429.out
       have hnc101 := NB429_439.out
       obtain ⟨hcz102_0, hcz102_1, hcz102_2, hcz102_3, hfz102_0, hfz102_1, hfz102_2, hfz102_3⟩ := c4 (w := wc) BK439
       go_wp2_with (first | ((with_reducible refine gC 27 rfl ?_); refine gL 68 Try.func27 #[.agg #[.int .i64 t430, .slice Ao40 t431.length co40, .slice Ao41 t434.length co41, .int .i64 t437], .int .i64 1] ?_; (with_reducible refine (laws_markStore.calls kj64 t430 (fun k_ => some k_ = (.slice Ao40 t431.length co40 : Value).ownBlock) (.slice Ao40 t431.length co40) t431 (fun k_ => some k_ = (.slice Ao41 t434.length co41 : Value).ownBlock) (.slice Ao41 t434.length co41) t434 t437 1 t454 t455 t456 w _ ?_ ?_ ?_ A96.out).mono ?_); exact zq115; exact zq154; exact zq155; rintro e w103 ⟨rfl, hy0, hy1, hb, hkp⟩; refine ⟨_, rfl, ?_⟩; replace HO_421001 := Aside0.mk (Kd.R_mono (ok' := fun k_ => some k_ ≠ (.slice Ao32 t451.length co32 : Value).ownBlock ∧ some k_ ≠ (.slice Ao40 t431.length co40 : Value).ownBlock) (Kd.R_keptB ((Kd.R_apart' HO_421001.out (Kd.R_typed HO_440002.out) (by decide))) hkp (fun k_ hk_ hs_ => Or.elim hs_ (fun e_ => by first | exact hk_.1.2 e_ | exact hk_.1.1 e_ | exact hk_.1.1.1 e_ | exact hk_.1.1.2 e_ | exact hk_.1.2.1 e_ | exact hk_.1.2.2 e_ | exact hk_.2 e_ | simp_all) (fun e_ => by first | exact hk_.2 e_ | exact hk_.1.1 e_ | exact hk_.1.2 e_ | exact hk_.1.1.1 e_ | exact hk_.1.1.2 e_ | exact hk_.1.2.1 e_ | exact hk_.1.2.2 e_ | simp_all))) (fun k_ hk_ => by first | exact ⟨hk_.1.1.1, hk_.1.1.2⟩ | simp_all)); replace HO_421002 := Aside0.mk (Kd.R_mono (ok' := fun k_ => some k_ ≠ (.slice Ao33 t452.length co33 : Value).ownBlock ∧ some k_ ≠ (.slice Ao41 t434.length co41 : Value).ownBlock) (Kd.R_keptB ((Kd.R_apart' HO_421002.out (Kd.R_typed HO_440001.out) (by decide))) hkp (fun k_ hk_ hs_ => Or.elim hs_ (fun e_ => by first | exact hk_.2 e_ | exact hk_.1.1 e_ | exact hk_.1.2 e_ | exact hk_.1.1.1 e_ | exact hk_.1.1.2 e_ | exact hk_.1.2.1 e_ | exact hk_.1.2.2 e_ | simp_all) (fun e_ => by first | exact hk_.1.2 e_ | exact hk_.1.1 e_ | exact hk_.1.1.1 e_ | exact hk_.1.1.2 e_ | exact hk_.1.2.1 e_ | exact hk_.1.2.2 e_ | exact hk_.2 e_ | simp_all))) (fun k_ hk_ => by first | exact ⟨hk_.1.1.1, hk_.1.1.2⟩ | simp_all)); replace HO_430001 := Aside0.mk (Kd.R_mono (ok' := fun k_ => some k_ ≠ (.slice Ao24 t412.length co24 : Value).ownBlock ∧ some k_ ≠ (.slice Ao40 t431.length co40 : Value).ownBlock) (Kd.R_keptB ((Kd.R_apart' HO_430001.out (Kd.R_typed HO_440002.out) (by decide))) hkp (fun k_ hk_ hs_ => Or.elim hs_ (fun e_ => by first | exact hk_.1.2 e_ | exact hk_.1.1 e_ | exact hk_.1.1.1 e_ | exact hk_.1.1.2 e_ | exact hk_.1.2.1 e_ | exact hk_.1.2.2 e_ | exact hk_.2 e_ | simp_all) (fun e_ => by first | exact hk_.2 e_ | exact hk_.1.1 e_ | exact hk_.1.2 e_ | exact hk_.1.1.1 e_ | exact hk_.1.1.2 e_ | exact hk_.1.2.1 e_ | exact hk_.1.2.2 e_ | simp_all))) (fun k_ hk_ => by first | exact ⟨hk_.1.1.1, hk_.1.1.2⟩ | simp_all)); replace HO_430002 := Aside0.mk (Kd.R_mono (ok' := fun k_ => some k_ ≠ (.slice Ao25 t415.length co25 : Value).ownBlock ∧ some k_ ≠ (.slice Ao41 t434.length co41 : Value).ownBlock) (Kd.R_keptB ((Kd.R_apart' HO_430002.out (Kd.R_typed HO_440001.out) (by decide))) hkp (fun k_ hk_ hs_ => Or.elim hs_ (fun e_ => by first | exact hk_.2 e_ | exact hk_.1.1 e_ | exact hk_.1.2 e_ | exact hk_.1.1.1 e_ | exact hk_.1.1.2 e_ | exact hk_.1.2.1 e_ | exact hk_.1.2.2 e_ | simp_all) (fun e_ => by first | exact hk_.1.2 e_ | exact hk_.1.1 e_ | exact hk_.1.1.1 e_ | exact hk_.1.1.2 e_ | exact hk_.1.2.1 e_ | exact hk_.1.2.2 e_ | exact hk_.2 e_ | simp_all))) (fun k_ hk_ => by first | exact ⟨hk_.1.1.1, hk_.1.1.2⟩ | simp_all)); replace BK401 := Aside0.mk (blk_kept zq135 hkp (fun hs_ => Or.elim hs_ (fun e_ => (fun e_ => (Kd.R_ne HO_440001.out BK401.out (by decide)) e_) e_) (fun e_ => (fun e_ => (Kd.R_ne HO_440002.out BK401.out (by decide)) e_) e_))); replace BK420 := Aside0.mk (blk_kept zq136 hkp (fun hs_ => Or.elim hs_ (fun e_ => (fun e_ => (Kd.R_ne HO_440001.out BK420.out (by decide)) e_) e_) (fun e_ => (fun e_ => (Kd.R_ne HO_440002.out BK420.out (by decide)) e_) e_))); replace BK429 := Aside0.mk (blk_kept zq137 hkp (fun hs_ => Or.elim hs_ (fun e_ => (fun e_ => (Kd.R_ne HO_440001.out BK429.out (by decide)) e_) e_) (fun e_ => (fun e_ => (Kd.R_ne HO_440002.out BK429.out (by decide)) e_) e_))); replace BK439 := Aside0.mk (blk_kept zq138 hkp (fun hs_ => Or.elim hs_ (fun e_ => (fun e_ => (Kd.R_ne HO_440001.out BK439.out (by decide)) e_) e_) (fun e_ => (fun e_ => (Kd.R_ne HO_440002.out BK439.out (by decide)) e_) e_))); replace HO_440001 := Aside0.mk (Kd.R_reok rfl hy0 (fun k_ e_ => HO_440001.out.1 k_ e_)); replace HO_440002 := Aside0.mk (Kd.R_reok rfl hy1 (fun k_ e_ => HO_440002.out.1 k_ e_)); replace HB := Aside0.mk hb; clear hb; (try clear hkp); (try clear hy0); (try clear hy1); obtain ⟨hcz104_0, hcz104_1, hcz104_2, hcz104_3, hfz104_0, hfz104_1, hfz104_2, hfz104_3⟩ := c4 (w := w103) BK439) | ((with_reducible refine gC 32 rfl ?_); refine gL 71 Try.func32 #[.agg #[.int .i64 t430, .slice Ao40 t455.length co40, .slice Ao41 t456.length co41, .int .i64 t437], .int .i64 1] ?_ (hargs := by (try simp only [List.map_toArray, List.map_cons, List.map_nil]); first | done | (rw [show t455.length = t431.length from (Kd.R_reads' HO_440001.out).1.symm, show t456.length = t434.length from (Kd.R_reads' HO_440002.out).1.symm] <;> rfl) | rfl | (simp only [List.length_drop, List.length_take]; rfl)); (with_reducible refine (laws_heldStore.calls kj64 t430 _ _ t455 _ _ t456 t437 1 t457 _ ?_ ?_ ?_ ?_ A97.out).mono ?_); exact zq146; exact zq157; exact zq148; exact zq158; rintro e w105 ⟨rfl, hb⟩; refine ⟨_, rfl, ?_⟩; replace HO_421001 := rB zq123 hb; replace HO_421002 := rB zq124 hb; replace HO_430001 := rB zq125 hb; replace HO_430002 := rB zq126 hb; replace HO_440001 := rB zq127 hb; replace HO_440002 := rB zq128 hb; replace BK401 := bF BK401 zq81 hb; replace BK420 := bF BK420 zq94 hb; replace BK429 := bF BK429 zq102 hb; replace BK439 := bF BK439 zq122 hb; replace HB := sB zq115 hb; clear hb))
       go_ret
       exact ⟨zq4, zq115⟩
      rw [if_neg c98] at H
      have c98b0 := decide_eq_false c98
      clear c98
      by_cases c106 : t457 = t454
      ·
       rw [if_pos c106] at H
       have c106b0 : (t457 == t454) = true := beq_iff_eq.mpr c106
       have c106b1 : (t457 != t454) = false := bne_eq_false_iff_eq.mpr c106
       clear c106
       replace H := Option.bind_eq_some_iff.mp H
       obtain ⟨⟨t458, t459, t462, t465⟩, A1070, H⟩ := H
       try dsimp only at H
       have A107 := Aside0.mk A1070
       clear A1070
       replace H := Option.bind_eq_some_iff.mp H
       obtain ⟨⟨t466, t467, t470, t473, t474⟩, A1080, H⟩ := H
       try dsimp only at H
       have A108 := Aside0.mk A1080
       clear A1080
       have HC109 := Aside0.mk H
       clear H
       have hnb110 := NB439_401.out
       have hnc110 := NB401_439.out
       have hnb111 := NB439_420.out
       have hnc111 := NB420_439.out
       have hnb112 := NB439_429.out
       have hnc112 := NB429_439.out
       obtain ⟨hcz113_0, hcz113_1, hcz113_2, hcz113_3, hfz113_0, hfz113_1, hfz113_2, hfz113_3⟩ := c4 (w := wc) BK439
       go_upto_region 25 with (first | ((with_reducible refine gC 27 rfl ?_); refine gL 68 Try.func27 #[.agg #[.int .i64 t430, .slice Ao40 t431.length co40, .slice Ao41 t434.length co41, .int .i64 t437], .int .i64 1] ?_; (with_reducible refine (laws_markStore.calls kj64 t430 (fun k_ => some k_ = (.slice Ao40 t431.length co40 : Value).ownBlock) (.slice Ao40 t431.length co40) t431 (fun k_ => some k_ = (.slice Ao41 t434.length co41 : Value).ownBlock) (.slice Ao41 t434.length co41) t434 t437 1 t454 t455 t456 w _ ?_ ?_ ?_ A96.out).mono ?_); exact zq115; exact zq154; exact zq155; rintro e w114 ⟨rfl, hy0, hy1, hb, hkp⟩; refine ⟨_, rfl, ?_⟩; replace HO_421001 := Aside0.mk (Kd.R_mono (ok' := fun k_ => some k_ ≠ (.slice Ao32 t451.length co32 : Value).ownBlock ∧ some k_ ≠ (.slice Ao40 t431.length co40 : Value).ownBlock) (Kd.R_keptB ((Kd.R_apart' HO_421001.out (Kd.R_typed HO_440002.out) (by decide))) hkp (fun k_ hk_ hs_ => Or.elim hs_ (fun e_ => by first | exact hk_.1.2 e_ | exact hk_.1.1 e_ | exact hk_.1.1.1 e_ | exact hk_.1.1.2 e_ | exact hk_.1.2.1 e_ | exact hk_.1.2.2 e_ | exact hk_.2 e_ | simp_all) (fun e_ => by first | exact hk_.2 e_ | exact hk_.1.1 e_ | exact hk_.1.2 e_ | exact hk_.1.1.1 e_ | exact hk_.1.1.2 e_ | exact hk_.1.2.1 e_ | exact hk_.1.2.2 e_ | simp_all))) (fun k_ hk_ => by first | exact ⟨hk_.1.1.1, hk_.1.1.2⟩ | simp_all)); replace HO_421002 := Aside0.mk (Kd.R_mono (ok' := fun k_ => some k_ ≠ (.slice Ao33 t452.length co33 : Value).ownBlock ∧ some k_ ≠ (.slice Ao41 t434.length co41 : Value).ownBlock) (Kd.R_keptB ((Kd.R_apart' HO_421002.out (Kd.R_typed HO_440001.out) (by decide))) hkp (fun k_ hk_ hs_ => Or.elim hs_ (fun e_ => by first | exact hk_.2 e_ | exact hk_.1.1 e_ | exact hk_.1.2 e_ | exact hk_.1.1.1 e_ | exact hk_.1.1.2 e_ | exact hk_.1.2.1 e_ | exact hk_.1.2.2 e_ | simp_all) (fun e_ => by first | exact hk_.1.2 e_ | exact hk_.1.1 e_ | exact hk_.1.1.1 e_ | exact hk_.1.1.2 e_ | exact hk_.1.2.1 e_ | exact hk_.1.2.2 e_ | exact hk_.2 e_ | simp_all))) (fun k_ hk_ => by first | exact ⟨hk_.1.1.1, hk_.1.1.2⟩ | simp_all)); replace HO_430001 := Aside0.mk (Kd.R_mono (ok' := fun k_ => some k_ ≠ (.slice Ao24 t412.length co24 : Value).ownBlock ∧ some k_ ≠ (.slice Ao40 t431.length co40 : Value).ownBlock) (Kd.R_keptB ((Kd.R_apart' HO_430001.out (Kd.R_typed HO_440002.out) (by decide))) hkp (fun k_ hk_ hs_ => Or.elim hs_ (fun e_ => by first | exact hk_.1.2 e_ | exact hk_.1.1 e_ | exact hk_.1.1.1 e_ | exact hk_.1.1.2 e_ | exact hk_.1.2.1 e_ | exact hk_.1.2.2 e_ | exact hk_.2 e_ | simp_all) (fun e_ => by first | exact hk_.2 e_ | exact hk_.1.1 e_ | exact hk_.1.2 e_ | exact hk_.1.1.1 e_ | exact hk_.1.1.2 e_ | exact hk_.1.2.1 e_ | exact hk_.1.2.2 e_ | simp_all))) (fun k_ hk_ => by first | exact ⟨hk_.1.1.1, hk_.1.1.2⟩ | simp_all)); replace HO_430002 := Aside0.mk (Kd.R_mono (ok' := fun k_ => some k_ ≠ (.slice Ao25 t415.length co25 : Value).ownBlock ∧ some k_ ≠ (.slice Ao41 t434.length co41 : Value).ownBlock) (Kd.R_keptB ((Kd.R_apart' HO_430002.out (Kd.R_typed HO_440001.out) (by decide))) hkp (fun k_ hk_ hs_ => Or.elim hs_ (fun e_ => by first | exact hk_.2 e_ | exact hk_.1.1 e_ | exact hk_.1.2 e_ | exact hk_.1.1.1 e_ | exact hk_.1.1.2 e_ | exact hk_.1.2.1 e_ | exact hk_.1.2.2 e_ | simp_all) (fun e_ => by first | exact hk_.1.2 e_ | exact hk_.1.1 e_ | exact hk_.1.1.1 e_ | exact hk_.1.1.2 e_ | exact hk_.1.2.1 e_ | exact hk_.1.2.2 e_ | exact hk_.2 e_ | simp_all))) (fun k_ hk_ => by first | exact ⟨hk_.1.1.1, hk_.1.1.2⟩ | simp_all)); replace BK401 := Aside0.mk (blk_kept zq135 hkp (fun hs_ => Or.elim hs_ (fun e_ => (fun e_ => (Kd.R_ne HO_440001.out BK401.out (by decide)) e_) e_) (fun e_ => (fun e_ => (Kd.R_ne HO_440002.out BK401.out (by decide)) e_) e_))); replace BK420 := Aside0.mk (blk_kept zq136 hkp (fun hs_ => Or.elim hs_ (fun e_ => (fun e_ => (Kd.R_ne HO_440001.out BK420.out (by decide)) e_) e_) (fun e_ => (fun e_ => (Kd.R_ne HO_440002.out BK420.out (by decide)) e_) e_))); replace BK429 := Aside0.mk (blk_kept zq137 hkp (fun hs_ => Or.elim hs_ (fun e_ => (fun e_ => (Kd.R_ne HO_440001.out BK429.out (by decide)) e_) e_) (fun e_ => (fun e_ => (Kd.R_ne HO_440002.out BK429.out (by decide)) e_) e_))); replace BK439 := Aside0.mk (blk_kept zq138 hkp (fun hs_ => Or.elim hs_ (fun e_ => (fun e_ => (Kd.R_ne HO_440001.out BK439.out (by decide)) e_) e_) (fun e_ => (fun e_ => (Kd.R_ne HO_440002.out BK439.out (by decide)) e_) e_))); replace HO_440001 := Aside0.mk (Kd.R_reok rfl hy0 (fun k_ e_ => HO_440001.out.1 k_ e_)); replace HO_440002 := Aside0.mk (Kd.R_reok rfl hy1 (fun k_ e_ => HO_440002.out.1 k_ e_)); replace HB := Aside0.mk hb; clear hb; (try clear hkp); (try clear hy0); (try clear hy1); obtain ⟨hcz115_0, hcz115_1, hcz115_2, hcz115_3, hfz115_0, hfz115_1, hfz115_2, hfz115_3⟩ := c4 (w := w114) BK439) | ((with_reducible refine gC 32 rfl ?_); refine gL 71 Try.func32 #[.agg #[.int .i64 t430, .slice Ao40 t455.length co40, .slice Ao41 t456.length co41, .int .i64 t437], .int .i64 1] ?_ (hargs := by (try simp only [List.map_toArray, List.map_cons, List.map_nil]); first | done | (rw [show t455.length = t431.length from (Kd.R_reads' HO_440001.out).1.symm, show t456.length = t434.length from (Kd.R_reads' HO_440002.out).1.symm] <;> rfl) | rfl | (simp only [List.length_drop, List.length_take]; rfl)); (with_reducible refine (laws_heldStore.calls kj64 t430 _ _ t455 _ _ t456 t437 1 t457 _ ?_ ?_ ?_ ?_ A97.out).mono ?_); exact zq146; exact zq157; exact zq148; exact zq158; rintro e w116 ⟨rfl, hb⟩; refine ⟨_, rfl, ?_⟩; replace HO_421001 := rB zq123 hb; replace HO_421002 := rB zq124 hb; replace HO_430001 := rB zq125 hb; replace HO_430002 := rB zq126 hb; replace HO_440001 := rB zq127 hb; replace HO_440002 := rB zq128 hb; replace BK401 := bF BK401 zq81 hb; replace BK420 := bF BK420 zq94 hb; replace BK429 := bF BK429 zq102 hb; replace BK439 := bF BK439 zq122 hb; replace HB := sB zq115 hb; clear hb; have hnb117 := NB401_420.out; have hnc117 := NB420_401.out; have hnb118 := NB401_429.out; have hnc118 := NB429_401.out; obtain ⟨hcz119_0, hcz119_1, hcz119_2, hcz119_3, hfz119_0, hfz119_1, hfz119_2, hfz119_3⟩ := c4 (w := w116) BK401) | ((with_reducible refine gC 17 rfl ?_); refine gL 79 Try.func17 #[.agg #[.int .i64 a0_0, .slice A0_1 l0_1.length c0_1, .slice A0_2 l0_2.length c0_2, .int .i64 a0_3]] ?_; (with_reducible refine (laws_toStore.calls kj64 a0_0 _ _ l0_1 _ _ l0_2 a0_3 t458 t459 t462 t465 _ ?_ ?_ ?_ ?_ A107.out).mono ?_); exact zq11; exact zq12; exact zq15; exact zq16; rintro e w120 ⟨v460, v463, rfl, ho0, ho1, hb⟩; refine ⟨_, rfl, ?_⟩; have HO461 := Aside0.mk (Kd.R_lower (Kd.R_new' (Kd.R_new' (Kd.R_new' ho0 (Kd.R_lt zq123)) (Kd.R_lt zq125)) (Kd.R_lt zq127)) (below_size zq115)); replace HO_421001 := Aside0.mk (Kd.R_elder' zq123 (Kd.R_base ho0) hb); replace HO_430001 := Aside0.mk (Kd.R_elder' zq125 (Kd.R_base ho0) hb); replace HO_440001 := Aside0.mk (Kd.R_elder' zq127 (Kd.R_base ho0) hb); have HO464 := Aside0.mk (Kd.R_lower (Kd.R_new' (Kd.R_new' (Kd.R_new' ho1 (Kd.R_lt zq124)) (Kd.R_lt zq126)) (Kd.R_lt zq128)) (below_size zq115)); replace HO_421002 := Aside0.mk (Kd.R_elder' zq124 (Kd.R_base ho1) hb); replace HO_430002 := Aside0.mk (Kd.R_elder' zq126 (Kd.R_base ho1) hb); replace HO_440002 := Aside0.mk (Kd.R_elder' zq128 (Kd.R_base ho1) hb); replace BK401 := bF BK401 zq81 hb; replace BK420 := bF BK420 zq94 hb; replace BK429 := bF BK429 zq102 hb; replace BK439 := bF BK439 zq122 hb; replace HB := sB zq115 hb; clear hb; (try clear ho0); (try clear ho1); obtain ⟨Ao121, co121, eo121⟩ := Kd.R_slice HO461.out; subst eo121; obtain ⟨Ao122, co122, eo122⟩ := Kd.R_slice HO464.out; subst eo122) | ((with_reducible refine gC 34 rfl ?_); refine gL 81 Try.func34 #[.agg #[.int .i64 t458, .slice Ao121 t459.length co121, .slice Ao122 t462.length co122, .int .i64 t465], .int .i64 a1] ?_; (with_reducible refine (impl_Abort.calls kj64 t458 _ _ t459 _ _ t462 t465 a1 t466 t467 t470 t473 t474 _ ?side1 ?_ ?side3 ?_ A108.out).mono ?_); (case side1 => repeat (first | exact (Kd.R_reads' HO461.out).2.2 | (with_reducible refine Kd.C_alloc ?_ _) | (with_reducible refine Kd.C_drewN ?_ _) | (with_reducible refine Kd.C_drew ?_))); exact (Kd.R_reads' HO461.out).2.1; (case side3 => repeat (first | exact (Kd.R_reads' HO464.out).2.2 | (with_reducible refine Kd.C_alloc ?_ _) | (with_reducible refine Kd.C_drewN ?_ _) | (with_reducible refine Kd.C_drew ?_))); exact (Kd.R_reads' HO464.out).2.1; rintro e w123 ⟨v468, v471, rfl, ho0, ho1, hb⟩; refine ⟨_, rfl, ?_⟩; have HO469 := Aside0.mk (Kd.R_lower (Kd.R_new' (Kd.R_new' (Kd.R_new' (Kd.R_new' ho0 (Kd.R_lt zq123)) (Kd.R_lt zq125)) (Kd.R_lt zq127)) (Kd.R_lt zq159)) (below_size zq115)); replace HO_421001 := Aside0.mk (Kd.R_elder' zq123 (Kd.R_base ho0) hb); replace HO_430001 := Aside0.mk (Kd.R_elder' zq125 (Kd.R_base ho0) hb); replace HO_440001 := Aside0.mk (Kd.R_elder' zq127 (Kd.R_base ho0) hb); replace HO461 := Aside0.mk (Kd.R_elder' zq159 (Kd.R_base ho0) hb); have HO472 := Aside0.mk (Kd.R_lower (Kd.R_new' (Kd.R_new' (Kd.R_new' (Kd.R_new' ho1 (Kd.R_lt zq124)) (Kd.R_lt zq126)) (Kd.R_lt zq128)) (Kd.R_lt zq160)) (below_size zq115)); replace HO_421002 := Aside0.mk (Kd.R_elder' zq124 (Kd.R_base ho1) hb); replace HO_430002 := Aside0.mk (Kd.R_elder' zq126 (Kd.R_base ho1) hb); replace HO_440002 := Aside0.mk (Kd.R_elder' zq128 (Kd.R_base ho1) hb); replace HO464 := Aside0.mk (Kd.R_elder' zq160 (Kd.R_base ho1) hb); replace BK401 := bF BK401 zq81 hb; replace BK420 := bF BK420 zq94 hb; replace BK429 := bF BK429 zq102 hb; replace BK439 := bF BK439 zq122 hb; replace HB := sB zq115 hb; clear hb; (try clear ho0); (try clear ho1)) | ((with_reducible refine gate_dst (N := 14) rfl ?_); refine box_event ?hg (N := 14) ?hd (cs := #[.int .i64 0, .slice none 0 0, .slice none 0 0, .int .i64 0]) (t := 31) ?hr ?_; (case hd => rfl); (case hg => rfl); (case hr => exact zq2); intro gb475 hg w124 hbox hb; replace HO_421001 := rB zq123 hb; replace HO_421002 := rB zq124 hb; replace HO_430001 := rB zq125 hb; replace HO_430002 := rB zq126 hb; replace HO_440001 := rB zq127 hb; replace HO_440002 := rB zq128 hb; replace HO461 := rB zq159 hb; replace HO464 := rB zq160 hb; replace HO469 := rB (by (with_reducible repeat (first | apply Kd.R_alloc | apply Kd.R_drewN | apply Kd.R_drew)); exact HO469.out) hb; replace HO472 := rB (by (with_reducible repeat (first | apply Kd.R_alloc | apply Kd.R_drewN | apply Kd.R_drew)); exact HO472.out) hb; have BK475 := Aside0.mk hbox; have GW475 := Aside0.mk (by rw [hg]; exact (below_size zq115) : w.heap.size ≤ gb475); have GE475 := Aside0.mk (by rw [hg]; exact (below_size zq115) : w.heap.size ≤ gb475); replace HB := sB zq115 hb; have NB401_475 := Aside0.mk (zq280 : gb401 ≠ gb475); have NB475_401 := Aside0.mk (zq281 : gb475 ≠ gb401); replace BK401 := bF BK401 zq81 hb; have NB420_475 := Aside0.mk (zq282 : gb420 ≠ gb475); have NB475_420 := Aside0.mk (zq283 : gb475 ≠ gb420); replace BK420 := bF BK420 zq94 hb; have NB429_475 := Aside0.mk (by rw [hg]; exact Nat.ne_of_lt (blk_lt (g := gb429) (o := .cells #[.int .i64 t421, .slice Ao32 t451.length co32, .slice Ao33 t452.length co33, .int .i64 t428] 31 (0, 0)) zq102) : gb429 ≠ gb475); have NB475_429 := Aside0.mk (by rw [hg]; exact Nat.ne_of_gt (blk_lt (g := gb429) (o := .cells #[.int .i64 t421, .slice Ao32 t451.length co32, .slice Ao33 t452.length co33, .int .i64 t428] 31 (0, 0)) zq102) : gb475 ≠ gb429); replace BK429 := bF BK429 zq102 hb; have NB439_475 := Aside0.mk (by rw [hg]; exact Nat.ne_of_lt (blk_lt (g := gb439) (o := .cells #[.int .i64 t430, .slice Ao40 t431.length co40, .slice Ao41 t434.length co41, .int .i64 t437] 31 (0, 0)) zq122) : gb439 ≠ gb475); have NB475_439 := Aside0.mk (by rw [hg]; exact Nat.ne_of_gt (blk_lt (g := gb439) (o := .cells #[.int .i64 t430, .slice Ao40 t431.length co40, .slice Ao41 t434.length co41, .int .i64 t437] 31 (0, 0)) zq122) : gb475 ≠ gb439); replace BK439 := bF BK439 zq122 hb; clear hb hbox hg; have hnb125 := NB475_401.out; have hnc125 := NB401_475.out; have hnb126 := NB475_420.out; have hnc126 := NB420_475.out; have hnb127 := NB475_429.out; have hnc127 := NB429_475.out; have hnb128 := NB475_439.out; have hnc128 := NB439_475.out; obtain ⟨hcz129_0, hcz129_1, hcz129_2, hcz129_3, hfz129_0, hfz129_1, hfz129_2, hfz129_3⟩ := c4 (w := w124) BK475; obtain ⟨Ao130, co130, eo130⟩ := Kd.R_slice HO469.out; subst eo130; obtain ⟨Ao131, co131, eo131⟩ := Kd.R_slice HO472.out; subst eo131))
       (try simp only [Act.put, List.setIfInBounds_toArray, List.set_cons_zero, List.set_cons_succ])
       go_cut [92] (fun v92 wc => ∃ (kq : Nat) (x92_108 : Bool), v92 = .bool x92_108 ∧ Aside0 (laws_FnExactAbort.j2 kq t454 x92_108 t430 t455 t456 t437 = some r) ∧ Aside0 (kq ≤ kj64) ∧ Aside0 (Kd.R k66 66 wc w.heap.size (fun k_ => some k_ ≠ ((.slice Ao32 t451.length co32) : Value).ownBlock ∧ some k_ ≠ ((.slice Ao40 t431.length co40) : Value).ownBlock ∧ some k_ ≠ ((.slice Ao130 t467.length co130) : Value).ownBlock) (.slice Ao24 t412.length co24) t412) ∧ Aside0 (Kd.R k68 68 wc w.heap.size (fun k_ => some k_ ≠ ((.slice Ao33 t452.length co33) : Value).ownBlock ∧ some k_ ≠ ((.slice Ao41 t434.length co41) : Value).ownBlock ∧ some k_ ≠ ((.slice Ao131 t470.length co131) : Value).ownBlock) (.slice Ao25 t415.length co25) t415) ∧ Aside0 (Kd.R k66 66 wc w.heap.size (fun k_ => some k_ ≠ ((.slice Ao24 t412.length co24) : Value).ownBlock ∧ some k_ ≠ ((.slice Ao40 t431.length co40) : Value).ownBlock ∧ some k_ ≠ ((.slice Ao130 t467.length co130) : Value).ownBlock) (.slice Ao32 t451.length co32) t451) ∧ Aside0 (Kd.R k68 68 wc w.heap.size (fun k_ => some k_ ≠ ((.slice Ao25 t415.length co25) : Value).ownBlock ∧ some k_ ≠ ((.slice Ao41 t434.length co41) : Value).ownBlock ∧ some k_ ≠ ((.slice Ao131 t470.length co131) : Value).ownBlock) (.slice Ao33 t452.length co33) t452) ∧ Aside0 (Kd.R k66 66 wc w.heap.size (fun k_ => some k_ ≠ ((.slice Ao24 t412.length co24) : Value).ownBlock ∧ some k_ ≠ ((.slice Ao32 t451.length co32) : Value).ownBlock ∧ some k_ ≠ ((.slice Ao130 t467.length co130) : Value).ownBlock) (.slice Ao40 t431.length co40) t455) ∧ Aside0 (Kd.R k68 68 wc w.heap.size (fun k_ => some k_ ≠ ((.slice Ao25 t415.length co25) : Value).ownBlock ∧ some k_ ≠ ((.slice Ao33 t452.length co33) : Value).ownBlock ∧ some k_ ≠ ((.slice Ao131 t470.length co131) : Value).ownBlock) (.slice Ao41 t434.length co41) t456) ∧ Aside0 (Kd.R k66 66 wc w.heap.size (fun k_ => some k_ ≠ ((.slice Ao24 t412.length co24) : Value).ownBlock ∧ some k_ ≠ ((.slice Ao32 t451.length co32) : Value).ownBlock ∧ some k_ ≠ ((.slice Ao40 t431.length co40) : Value).ownBlock) (.slice Ao130 t467.length co130) t467) ∧ Aside0 (Kd.R k68 68 wc w.heap.size (fun k_ => some k_ ≠ ((.slice Ao25 t415.length co25) : Value).ownBlock ∧ some k_ ≠ ((.slice Ao33 t452.length co33) : Value).ownBlock ∧ some k_ ≠ ((.slice Ao41 t434.length co41) : Value).ownBlock) (.slice Ao131 t470.length co131) t470) ∧ Aside0 (wc.heap[gb401]? = some (.cells #[.int .i64 a0_0, (.slice A0_1 l0_1.length c0_1), (.slice A0_2 l0_2.length c0_2), .int .i64 a0_3] 25 (0, 0))) ∧ Aside0 (wc.heap[gb420]? = some (.cells #[.int .i64 t411, (.slice Ao24 t412.length co24), (.slice Ao25 t415.length co25), .int .i64 t418] 31 (0, 0))) ∧ Aside0 (wc.heap[gb429]? = some (.cells #[.int .i64 t421, (.slice Ao32 t451.length co32), (.slice Ao33 t452.length co33), .int .i64 t428] 31 (0, 0))) ∧ Aside0 (wc.heap[gb439]? = some (.cells #[.int .i64 t430, (.slice Ao40 t431.length co40), (.slice Ao41 t434.length co41), .int .i64 t437] 31 (0, 0))) ∧ Aside0 (wc.heap[gb475]? = some (.cells #[.int .i64 t466, (.slice Ao130 t467.length co130), (.slice Ao131 t470.length co131), .int .i64 t473] 31 (0, 0))) ∧ Aside0 (Below w.heap.size w wc))
       case first =>
        have H := HC109.out
        clear HC109
        replace H := Option.bind_eq_some_iff.mp H
        obtain ⟨t476, A1320, H⟩ := H
        try dsimp only at H
        have A132 := Aside0.mk A1320
        clear A1320
        by_cases c133 : t476 = true
        ·
         subst c133
         have H1 : (laws_FnExactAbort.j2 kj64 t454 (t474 != t419) t430 t455 t456 t437) = some r := by rw [if_pos rfl] at H; exact H
         clear H
         have H := H1
         clear H1
         have H' := Aside0.mk H
         clear H
         have hnb134 := NB475_401.out
         have hnc134 := NB401_475.out
         have hnb135 := NB475_420.out
         have hnc135 := NB420_475.out
         have hnb136 := NB475_429.out
         have hnc136 := NB429_475.out
         have hnb137 := NB475_439.out
         have hnc137 := NB439_475.out
         obtain ⟨hcz138_0, hcz138_1, hcz138_2, hcz138_3, hfz138_0, hfz138_1, hfz138_2, hfz138_3⟩ := c4 (w := w124) BK475
         have hnb139 := NB420_401.out
         have hnc139 := NB401_420.out
         have hnb140 := NB420_429.out
         have hnc140 := NB429_420.out
         have hnb141 := NB420_439.out
         have hnc141 := NB439_420.out
         obtain ⟨hcz142_0, hcz142_1, hcz142_2, hcz142_3, hfz142_0, hfz142_1, hfz142_2, hfz142_3⟩ := c4 (w := w124) BK420
         go_wp2_with (first | ((with_reducible refine gC 19 rfl ?_); refine gL 86 Try.func19 #[.agg #[.int .i64 t466, .slice Ao130 t467.length co130, .slice Ao131 t470.length co131, .int .i64 t473], .agg #[.int .i64 t411, .slice Ao24 t412.length co24, .slice Ao25 t415.length co25, .int .i64 t418]] ?_; (with_reducible refine (laws_eqStore.calls kj64 t466 _ _ t467 _ _ t470 t473 t411 _ _ t412 _ _ t415 t418 true _ ?_ ?_ ?_ ?_ ?_ ?_ ?_ ?_ A132.out).mono ?_); exact zq288; exact (Kd.R_reads' HO469.out).2.1; exact zq289; exact (Kd.R_reads' HO472.out).2.1; exact zq290; exact zq151; exact zq291; exact zq153; rintro e w143 ⟨rfl, hb⟩; refine ⟨_, rfl, ?_⟩; replace HO_421001 := rB zq163 hb; replace HO_421002 := rB zq164 hb; replace HO_430001 := rB zq165 hb; replace HO_430002 := rB zq166 hb; replace HO_440001 := rB zq167 hb; replace HO_440002 := rB zq168 hb; replace HO461 := rB zq169 hb; replace HO464 := rB zq170 hb; replace HO469 := rB zq161 hb; replace HO472 := rB zq162 hb; replace BK401 := bF BK401 zq171 hb; replace BK420 := bF BK420 zq172 hb; replace BK429 := bF BK429 zq173 hb; replace BK439 := bF BK439 zq174 hb; replace BK475 := bB (g := gb475) (o := .cells #[.int .i64 t466, .slice Ao130 t467.length co130, .slice Ao131 t470.length co131, .int .i64 t473] 31 (0, 0)) zq175 hb; replace HB := sB zq176 hb; clear hb))
         go_meet
         case rel => exact ⟨_, ((t474 != t419)), zq6, H', ⟨zq177⟩, ⟨zq178⟩, ⟨zq179⟩, ⟨zq180⟩, ⟨zq181⟩, ⟨zq182⟩, ⟨zq183⟩, ⟨zq184⟩, ⟨zq185⟩, ⟨zq186⟩, ⟨zq187⟩, ⟨zq188⟩, ⟨zq189⟩, ⟨zq190⟩, ⟨zq176⟩⟩
        replace c133 := Bool.eq_false_iff.mpr c133
        subst c133
        have H1 : (laws_FnExactAbort.j2 kj64 t454 true t430 t455 t456 t437) = some r := by rw [if_neg (show ¬ (false = true) by decide)] at H; exact H
        clear H
        have H := H1
        clear H1
        have H' := Aside0.mk H
        clear H
        have hnb144 := NB475_401.out
        have hnc144 := NB401_475.out
        have hnb145 := NB475_420.out
        have hnc145 := NB420_475.out
        have hnb146 := NB475_429.out
        have hnc146 := NB429_475.out
        have hnb147 := NB475_439.out
        have hnc147 := NB439_475.out
        obtain ⟨hcz148_0, hcz148_1, hcz148_2, hcz148_3, hfz148_0, hfz148_1, hfz148_2, hfz148_3⟩ := c4 (w := w124) BK475
        have hnb149 := NB420_401.out
        have hnc149 := NB401_420.out
        have hnb150 := NB420_429.out
        have hnc150 := NB429_420.out
        have hnb151 := NB420_439.out
        have hnc151 := NB439_420.out
        obtain ⟨hcz152_0, hcz152_1, hcz152_2, hcz152_3, hfz152_0, hfz152_1, hfz152_2, hfz152_3⟩ := c4 (w := w124) BK420
        go_wp2_with (first | ((with_reducible refine gC 19 rfl ?_); refine gL 86 Try.func19 #[.agg #[.int .i64 t466, .slice Ao130 t467.length co130, .slice Ao131 t470.length co131, .int .i64 t473], .agg #[.int .i64 t411, .slice Ao24 t412.length co24, .slice Ao25 t415.length co25, .int .i64 t418]] ?_; (with_reducible refine (laws_eqStore.calls kj64 t466 _ _ t467 _ _ t470 t473 t411 _ _ t412 _ _ t415 t418 false _ ?_ ?_ ?_ ?_ ?_ ?_ ?_ ?_ A132.out).mono ?_); exact zq288; exact (Kd.R_reads' HO469.out).2.1; exact zq289; exact (Kd.R_reads' HO472.out).2.1; exact zq290; exact zq151; exact zq291; exact zq153; rintro e w153 ⟨rfl, hb⟩; refine ⟨_, rfl, ?_⟩; replace HO_421001 := rB zq163 hb; replace HO_421002 := rB zq164 hb; replace HO_430001 := rB zq165 hb; replace HO_430002 := rB zq166 hb; replace HO_440001 := rB zq167 hb; replace HO_440002 := rB zq168 hb; replace HO461 := rB zq169 hb; replace HO464 := rB zq170 hb; replace HO469 := rB zq161 hb; replace HO472 := rB zq162 hb; replace BK401 := bF BK401 zq171 hb; replace BK420 := bF BK420 zq172 hb; replace BK429 := bF BK429 zq173 hb; replace BK439 := bF BK439 zq174 hb; replace BK475 := bB (g := gb475) (o := .cells #[.int .i64 t466, .slice Ao130 t467.length co130, .slice Ao131 t470.length co131, .int .i64 t473] 31 (0, 0)) zq175 hb; replace HB := sB zq176 hb; clear hb))
        go_meet
        case rel => exact ⟨_, (true), zq6, H', ⟨zq177⟩, ⟨zq178⟩, ⟨zq179⟩, ⟨zq180⟩, ⟨zq181⟩, ⟨zq182⟩, ⟨zq183⟩, ⟨zq184⟩, ⟨zq185⟩, ⟨zq186⟩, ⟨zq187⟩, ⟨zq188⟩, ⟨zq189⟩, ⟨zq190⟩, ⟨zq176⟩⟩
       case rest =>
        clear HC109
        try clear c1
        try clear c2
        try clear p2
        try clear c3
        try clear c4
        try clear c4b0
        try clear c5
        try clear c6
        try clear c7
        try clear c8
        try clear c9
        try clear c10
        try clear c11
        try clear c12
        try clear c13
        try clear c14
        try clear c15
        try clear c17
        try clear c19
        try clear c22
        try clear c27
        try clear c29
        try clear c30
        try clear c32
        try clear c33
        try clear c34
        try clear c36
        try clear c37
        try clear c38
        try clear c43
        try clear c44
        try clear c45
        try clear c46
        try clear c48
        try clear c49
        try clear c52
        try clear c53
        try clear c54
        try clear c56
        try clear c57
        try clear c60
        try clear c63
        try clear c71
        try clear c72
        try clear c73
        try clear c76
        try clear c76b0
        try clear c78
        try clear c79
        try clear c80
        try clear c81
        try clear c83
        try clear c84
        try clear c87
        try clear c88
        try clear c89
        try clear c91
        try clear c92
        try clear c95
        try clear c98
        try clear c98b0
        try clear c99
        try clear c100
        try clear c101
        try clear c106
        try clear c106b0
        try clear c106b1
        try clear c110
        try clear c111
        try clear c112
        try clear c117
        try clear c118
        try clear c125
        try clear c126
        try clear c127
        try clear c128
        try clear c133
        try clear c134
        try clear c135
        try clear c136
        try clear c137
        try clear c139
        try clear c140
        try clear c141
        try clear c144
        try clear c145
        try clear c146
        try clear c147
        try clear c149
        try clear c150
        try clear c151
        try clear hcz102_0
        try clear hcz102_1
        try clear hcz102_2
        try clear hcz102_3
        try clear hcz104_0
        try clear hcz104_1
        try clear hcz104_2
        try clear hcz104_3
        try clear hcz113_0
        try clear hcz113_1
        try clear hcz113_2
        try clear hcz113_3
        try clear hcz115_0
        try clear hcz115_1
        try clear hcz115_2
        try clear hcz115_3
        try clear hcz119_0
        try clear hcz119_1
        try clear hcz119_2
        try clear hcz119_3
        try clear hcz129_0
        try clear hcz129_1
        try clear hcz129_2
        try clear hcz129_3
        try clear hcz138_0
        try clear hcz138_1
        try clear hcz138_2
        try clear hcz138_3
        try clear hcz142_0
        try clear hcz142_1
        try clear hcz142_2
        try clear hcz142_3
        try clear hcz148_0
        try clear hcz148_1
        try clear hcz148_2
        try clear hcz148_3
        try clear hcz14_0
        try clear hcz14_1
        try clear hcz14_2
        try clear hcz14_3
        try clear hcz152_0
        try clear hcz152_1
        try clear hcz152_2
        try clear hcz152_3
        try clear hcz16_0
        try clear hcz16_1
        try clear hcz16_2
        try clear hcz16_3
        try clear hcz23_0
        try clear hcz23_1
        try clear hcz23_2
        try clear hcz23_3
        try clear hcz26_0
        try clear hcz26_1
        try clear hcz26_2
        try clear hcz26_3
        try clear hcz31_0
        try clear hcz31_1
        try clear hcz31_2
        try clear hcz31_3
        try clear hcz39_0
        try clear hcz39_1
        try clear hcz39_2
        try clear hcz39_3
        try clear hcz47_0
        try clear hcz47_1
        try clear hcz47_2
        try clear hcz47_3
        try clear hcz50_0
        try clear hcz50_1
        try clear hcz50_2
        try clear hcz50_3
        try clear hcz55_0
        try clear hcz55_1
        try clear hcz55_2
        try clear hcz55_3
        try clear hcz58_0
        try clear hcz58_1
        try clear hcz58_2
        try clear hcz58_3
        try clear hcz6_0
        try clear hcz6_1
        try clear hcz6_2
        try clear hcz6_3
        try clear hcz74_0
        try clear hcz74_1
        try clear hcz74_2
        try clear hcz74_3
        try clear hcz82_0
        try clear hcz82_1
        try clear hcz82_2
        try clear hcz82_3
        try clear hcz85_0
        try clear hcz85_1
        try clear hcz85_2
        try clear hcz85_3
        try clear hcz90_0
        try clear hcz90_1
        try clear hcz90_2
        try clear hcz90_3
        try clear hcz93_0
        try clear hcz93_1
        try clear hcz93_2
        try clear hcz93_3
        try clear hfz102_0
        try clear hfz102_1
        try clear hfz102_2
        try clear hfz102_3
        try clear hfz104_0
        try clear hfz104_1
        try clear hfz104_2
        try clear hfz104_3
        try clear hfz113_0
        try clear hfz113_1
        try clear hfz113_2
        try clear hfz113_3
        try clear hfz115_0
        try clear hfz115_1
        try clear hfz115_2
        try clear hfz115_3
        try clear hfz119_0
        try clear hfz119_1
        try clear hfz119_2
        try clear hfz119_3
        try clear hfz129_0
        try clear hfz129_1
        try clear hfz129_2
        try clear hfz129_3
        try clear hfz138_0
        try clear hfz138_1
        try clear hfz138_2
        try clear hfz138_3
        try clear hfz142_0
        try clear hfz142_1
        try clear hfz142_2
        try clear hfz142_3
        try clear hfz148_0
        try clear hfz148_1
        try clear hfz148_2
        try clear hfz148_3
        try clear hfz14_0
        try clear hfz14_1
        try clear hfz14_2
        try clear hfz14_3
        try clear hfz152_0
        try clear hfz152_1
        try clear hfz152_2
        try clear hfz152_3
        try clear hfz16_0
        try clear hfz16_1
        try clear hfz16_2
        try clear hfz16_3
        try clear hfz23_0
        try clear hfz23_1
        try clear hfz23_2
        try clear hfz23_3
        try clear hfz26_0
        try clear hfz26_1
        try clear hfz26_2
        try clear hfz26_3
        try clear hfz31_0
        try clear hfz31_1
        try clear hfz31_2
        try clear hfz31_3
        try clear hfz39_0
        try clear hfz39_1
        try clear hfz39_2
        try clear hfz39_3
        try clear hfz47_0
        try clear hfz47_1
        try clear hfz47_2
        try clear hfz47_3
        try clear hfz50_0
        try clear hfz50_1
        try clear hfz50_2
        try clear hfz50_3
        try clear hfz55_0
        try clear hfz55_1
        try clear hfz55_2
        try clear hfz55_3
        try clear hfz58_0
        try clear hfz58_1
        try clear hfz58_2
        try clear hfz58_3
        try clear hfz6_0
        try clear hfz6_1
        try clear hfz6_2
        try clear hfz6_3
        try clear hfz74_0
        try clear hfz74_1
        try clear hfz74_2
        try clear hfz74_3
        try clear hfz82_0
        try clear hfz82_1
        try clear hfz82_2
        try clear hfz82_3
        try clear hfz85_0
        try clear hfz85_1
        try clear hfz85_2
        try clear hfz85_3
        try clear hfz90_0
        try clear hfz90_1
        try clear hfz90_2
        try clear hfz90_3
        try clear hfz93_0
        try clear hfz93_1
        try clear hfz93_2
        try clear hfz93_3
        try clear p2
        obtain ⟨kq, x92_108, rfl, HA, HJ108, HO_421001, HO_421002, HO_430001, HO_430002, HO_440001, HO_440002, HO_476001, HO_476002, BK401, BK420, BK429, BK439, BK475, HB⟩ := hcut
        have hl440001_108 := (Kd.R_reads' HO_440001.out).1
        rw [hl440001_108] at HO_440001
        (try simp only [hl440001_108])
        (try simp only [hl440001_108] at BK401)
        (try simp only [hl440001_108] at BK420)
        (try simp only [hl440001_108] at BK429)
        (try simp only [hl440001_108] at BK439)
        (try simp only [hl440001_108] at BK475)
        (try simp only [hl440001_108] at HO_421001)
        (try simp only [hl440001_108] at HO_421002)
        (try simp only [hl440001_108] at HO_430001)
        (try simp only [hl440001_108] at HO_430002)
        (try simp only [hl440001_108] at HO_440002)
        (try simp only [hl440001_108] at HO_476001)
        (try simp only [hl440001_108] at HO_476002)
        have hl440002_108 := (Kd.R_reads' HO_440002.out).1
        rw [hl440002_108] at HO_440002
        (try simp only [hl440002_108])
        (try simp only [hl440002_108] at BK401)
        (try simp only [hl440002_108] at BK420)
        (try simp only [hl440002_108] at BK429)
        (try simp only [hl440002_108] at BK439)
        (try simp only [hl440002_108] at BK475)
        (try simp only [hl440002_108] at HO_421001)
        (try simp only [hl440002_108] at HO_421002)
        (try simp only [hl440002_108] at HO_430001)
        (try simp only [hl440002_108] at HO_430002)
        (try simp only [hl440002_108] at HO_440001)
        (try simp only [hl440002_108] at HO_476001)
        (try simp only [hl440002_108] at HO_476002)
        cases kq with
        | zero => exact absurd HA.out (by simp [laws_FnExactAbort.j2])
        | succ kj108 =>
         have H := HA.out
         clear HA
         simp only [laws_FnExactAbort.j2] at H
         by_cases c154 : x92_108 = true
         ·
          subst c154
          have H1 : (some false) = some r := by rw [if_pos rfl] at H; exact H
          clear H
          have H := H1
          clear H1
          obtain rfl := Option.some.inj H
          go_wp2
          go_ret
          exact ⟨zq4, zq176⟩
         replace c154 := Bool.eq_false_iff.mpr c154
         subst c154
         have H1 : ((laws_heldStore.f kj108 t430 t455 t456 t437 1).bind fun t477 => (if t477 < 0 then (some false) else (if t477 = t454 then (some true) else (some false)))) = some r := by rw [if_neg (show ¬ (false = true) by decide)] at H; exact H
         clear H
         have H := H1
         clear H1
         replace H := Option.bind_eq_some_iff.mp H
         obtain ⟨t477, A1550, H⟩ := H
         try dsimp only at H
         have A155 := Aside0.mk A1550
         clear A1550
         by_cases c156 : t477 < 0
         ·
          rw [if_pos c156] at H
          have c156b0 := decide_eq_true c156
          clear c156
          obtain rfl := Option.some.inj H
          have hnb157 := NB439_401.out
          have hnc157 := NB401_439.out
          have hnb158 := NB439_420.out
          have hnc158 := NB420_439.out
          have hnb159 := NB439_429.out
          have hnc159 := NB429_439.out
          have hnb160 := NB439_475.out
          have hnc160 := NB475_439.out
          obtain ⟨hcz161_0, hcz161_1, hcz161_2, hcz161_3, hfz161_0, hfz161_1, hfz161_2, hfz161_3⟩ := c4 (w := wc) BK439
          go_wp2_with (first | ((with_reducible refine gC 32 rfl ?_); refine gL 95 Try.func32 #[.agg #[.int .i64 t430, .slice Ao40 t455.length co40, .slice Ao41 t456.length co41, .int .i64 t437], .int .i64 1] ?_; (with_reducible refine (laws_heldStore.calls kj108 t430 _ _ t455 _ _ t456 t437 1 t477 _ ?_ ?_ ?_ ?_ A155.out).mono ?_); exact zq146; exact zq147; exact zq148; exact zq149; rintro e w162 ⟨rfl, hb⟩; refine ⟨_, rfl, ?_⟩; replace HO_421001 := rB zq123 hb; replace HO_421002 := rB zq124 hb; replace HO_430001 := rB zq125 hb; replace HO_430002 := rB zq126 hb; replace HO_440001 := rB zq127 hb; replace HO_440002 := rB zq128 hb; replace HO_476001 := rB zq191 hb; replace HO_476002 := rB zq192 hb; replace BK401 := bF BK401 zq81 hb; replace BK420 := bF BK420 zq94 hb; replace BK429 := bF BK429 zq102 hb; replace BK439 := bF BK439 zq122 hb; replace BK475 := bF BK475 zq193 hb; replace HB := sB zq176 hb; clear hb))
          go_ret
          exact ⟨zq4, zq176⟩
         rw [if_neg c156] at H
         have c156b0 := decide_eq_false c156
         clear c156
         by_cases c163 : t477 = t454
         ·
          rw [if_pos c163] at H
          have c163b0 : (t477 == t454) = true := beq_iff_eq.mpr c163
          have c163b1 : (t477 != t454) = false := bne_eq_false_iff_eq.mpr c163
          clear c163
          obtain rfl := Option.some.inj H
          have hnb164 := NB439_401.out
          have hnc164 := NB401_439.out
          have hnb165 := NB439_420.out
          have hnc165 := NB420_439.out
          have hnb166 := NB439_429.out
          have hnc166 := NB429_439.out
          have hnb167 := NB439_475.out
          have hnc167 := NB475_439.out
          obtain ⟨hcz168_0, hcz168_1, hcz168_2, hcz168_3, hfz168_0, hfz168_1, hfz168_2, hfz168_3⟩ := c4 (w := wc) BK439
          go_wp2_with (first | ((with_reducible refine gC 32 rfl ?_); refine gL 95 Try.func32 #[.agg #[.int .i64 t430, .slice Ao40 t455.length co40, .slice Ao41 t456.length co41, .int .i64 t437], .int .i64 1] ?_; (with_reducible refine (laws_heldStore.calls kj108 t430 _ _ t455 _ _ t456 t437 1 t477 _ ?_ ?_ ?_ ?_ A155.out).mono ?_); exact zq146; exact zq147; exact zq148; exact zq149; rintro e w169 ⟨rfl, hb⟩; refine ⟨_, rfl, ?_⟩; replace HO_421001 := rB zq123 hb; replace HO_421002 := rB zq124 hb; replace HO_430001 := rB zq125 hb; replace HO_430002 := rB zq126 hb; replace HO_440001 := rB zq127 hb; replace HO_440002 := rB zq128 hb; replace HO_476001 := rB zq191 hb; replace HO_476002 := rB zq192 hb; replace BK401 := bF BK401 zq81 hb; replace BK420 := bF BK420 zq94 hb; replace BK429 := bF BK429 zq102 hb; replace BK439 := bF BK439 zq122 hb; replace BK475 := bF BK475 zq193 hb; replace HB := sB zq176 hb; clear hb))
          go_ret
          exact ⟨zq4, zq176⟩
         rw [if_neg c163] at H
         have c163b0 : (t477 == t454) = false := beq_eq_false_iff_ne.mpr c163
         have c163b1 : (t477 != t454) = true := bne_iff_ne.mpr c163
         obtain rfl := Option.some.inj H
         have hnb170 := NB439_401.out
         have hnc170 := NB401_439.out
         have hnb171 := NB439_420.out
         have hnc171 := NB420_439.out
         have hnb172 := NB439_429.out
         have hnc172 := NB429_439.out
         have hnb173 := NB439_475.out
         have hnc173 := NB475_439.out
         obtain ⟨hcz174_0, hcz174_1, hcz174_2, hcz174_3, hfz174_0, hfz174_1, hfz174_2, hfz174_3⟩ := c4 (w := wc) BK439
         go_wp2_with (first | ((with_reducible refine gC 32 rfl ?_); refine gL 95 Try.func32 #[.agg #[.int .i64 t430, .slice Ao40 t455.length co40, .slice Ao41 t456.length co41, .int .i64 t437], .int .i64 1] ?_; (with_reducible refine (laws_heldStore.calls kj108 t430 _ _ t455 _ _ t456 t437 1 t477 _ ?_ ?_ ?_ ?_ A155.out).mono ?_); exact zq146; exact zq147; exact zq148; exact zq149; rintro e w175 ⟨rfl, hb⟩; refine ⟨_, rfl, ?_⟩; replace HO_421001 := rB zq123 hb; replace HO_421002 := rB zq124 hb; replace HO_430001 := rB zq125 hb; replace HO_430002 := rB zq126 hb; replace HO_440001 := rB zq127 hb; replace HO_440002 := rB zq128 hb; replace HO_476001 := rB zq191 hb; replace HO_476002 := rB zq192 hb; replace BK401 := bF BK401 zq81 hb; replace BK420 := bF BK420 zq94 hb; replace BK429 := bF BK429 zq102 hb; replace BK439 := bF BK439 zq122 hb; replace BK475 := bF BK475 zq193 hb; replace HB := sB zq176 hb; clear hb))
         go_ret
         exact ⟨zq4, zq176⟩
      rw [if_neg c106] at H
      have c106b0 : (t457 == t454) = false := beq_eq_false_iff_ne.mpr c106
      have c106b1 : (t457 != t454) = true := bne_iff_ne.mpr c106
      obtain rfl := Option.some.inj H
      have hnb176 := NB439_401.out
      have hnc176 := NB401_439.out
      have hnb177 := NB439_420.out
      have hnc177 := NB420_439.out
      have hnb178 := NB439_429.out
      have hnc178 := NB429_439.out
      obtain ⟨hcz179_0, hcz179_1, hcz179_2, hcz179_3, hfz179_0, hfz179_1, hfz179_2, hfz179_3⟩ := c4 (w := wc) BK439
      go_wp2_with (first | ((with_reducible refine gC 27 rfl ?_); refine gL 68 Try.func27 #[.agg #[.int .i64 t430, .slice Ao40 t431.length co40, .slice Ao41 t434.length co41, .int .i64 t437], .int .i64 1] ?_; (with_reducible refine (laws_markStore.calls kj64 t430 (fun k_ => some k_ = (.slice Ao40 t431.length co40 : Value).ownBlock) (.slice Ao40 t431.length co40) t431 (fun k_ => some k_ = (.slice Ao41 t434.length co41 : Value).ownBlock) (.slice Ao41 t434.length co41) t434 t437 1 t454 t455 t456 w _ ?_ ?_ ?_ A96.out).mono ?_); exact zq115; exact zq154; exact zq155; rintro e w180 ⟨rfl, hy0, hy1, hb, hkp⟩; refine ⟨_, rfl, ?_⟩; replace HO_421001 := Aside0.mk (Kd.R_mono (ok' := fun k_ => some k_ ≠ (.slice Ao32 t451.length co32 : Value).ownBlock ∧ some k_ ≠ (.slice Ao40 t431.length co40 : Value).ownBlock) (Kd.R_keptB ((Kd.R_apart' HO_421001.out (Kd.R_typed HO_440002.out) (by decide))) hkp (fun k_ hk_ hs_ => Or.elim hs_ (fun e_ => by first | exact hk_.1.2 e_ | exact hk_.1.1 e_ | exact hk_.1.1.1 e_ | exact hk_.1.1.2 e_ | exact hk_.1.2.1 e_ | exact hk_.1.2.2 e_ | exact hk_.2 e_ | simp_all) (fun e_ => by first | exact hk_.2 e_ | exact hk_.1.1 e_ | exact hk_.1.2 e_ | exact hk_.1.1.1 e_ | exact hk_.1.1.2 e_ | exact hk_.1.2.1 e_ | exact hk_.1.2.2 e_ | simp_all))) (fun k_ hk_ => by first | exact ⟨hk_.1.1.1, hk_.1.1.2⟩ | simp_all)); replace HO_421002 := Aside0.mk (Kd.R_mono (ok' := fun k_ => some k_ ≠ (.slice Ao33 t452.length co33 : Value).ownBlock ∧ some k_ ≠ (.slice Ao41 t434.length co41 : Value).ownBlock) (Kd.R_keptB ((Kd.R_apart' HO_421002.out (Kd.R_typed HO_440001.out) (by decide))) hkp (fun k_ hk_ hs_ => Or.elim hs_ (fun e_ => by first | exact hk_.2 e_ | exact hk_.1.1 e_ | exact hk_.1.2 e_ | exact hk_.1.1.1 e_ | exact hk_.1.1.2 e_ | exact hk_.1.2.1 e_ | exact hk_.1.2.2 e_ | simp_all) (fun e_ => by first | exact hk_.1.2 e_ | exact hk_.1.1 e_ | exact hk_.1.1.1 e_ | exact hk_.1.1.2 e_ | exact hk_.1.2.1 e_ | exact hk_.1.2.2 e_ | exact hk_.2 e_ | simp_all))) (fun k_ hk_ => by first | exact ⟨hk_.1.1.1, hk_.1.1.2⟩ | simp_all)); replace HO_430001 := Aside0.mk (Kd.R_mono (ok' := fun k_ => some k_ ≠ (.slice Ao24 t412.length co24 : Value).ownBlock ∧ some k_ ≠ (.slice Ao40 t431.length co40 : Value).ownBlock) (Kd.R_keptB ((Kd.R_apart' HO_430001.out (Kd.R_typed HO_440002.out) (by decide))) hkp (fun k_ hk_ hs_ => Or.elim hs_ (fun e_ => by first | exact hk_.1.2 e_ | exact hk_.1.1 e_ | exact hk_.1.1.1 e_ | exact hk_.1.1.2 e_ | exact hk_.1.2.1 e_ | exact hk_.1.2.2 e_ | exact hk_.2 e_ | simp_all) (fun e_ => by first | exact hk_.2 e_ | exact hk_.1.1 e_ | exact hk_.1.2 e_ | exact hk_.1.1.1 e_ | exact hk_.1.1.2 e_ | exact hk_.1.2.1 e_ | exact hk_.1.2.2 e_ | simp_all))) (fun k_ hk_ => by first | exact ⟨hk_.1.1.1, hk_.1.1.2⟩ | simp_all)); replace HO_430002 := Aside0.mk (Kd.R_mono (ok' := fun k_ => some k_ ≠ (.slice Ao25 t415.length co25 : Value).ownBlock ∧ some k_ ≠ (.slice Ao41 t434.length co41 : Value).ownBlock) (Kd.R_keptB ((Kd.R_apart' HO_430002.out (Kd.R_typed HO_440001.out) (by decide))) hkp (fun k_ hk_ hs_ => Or.elim hs_ (fun e_ => by first | exact hk_.2 e_ | exact hk_.1.1 e_ | exact hk_.1.2 e_ | exact hk_.1.1.1 e_ | exact hk_.1.1.2 e_ | exact hk_.1.2.1 e_ | exact hk_.1.2.2 e_ | simp_all) (fun e_ => by first | exact hk_.1.2 e_ | exact hk_.1.1 e_ | exact hk_.1.1.1 e_ | exact hk_.1.1.2 e_ | exact hk_.1.2.1 e_ | exact hk_.1.2.2 e_ | exact hk_.2 e_ | simp_all))) (fun k_ hk_ => by first | exact ⟨hk_.1.1.1, hk_.1.1.2⟩ | simp_all)); replace BK401 := Aside0.mk (blk_kept zq135 hkp (fun hs_ => Or.elim hs_ (fun e_ => (fun e_ => (Kd.R_ne HO_440001.out BK401.out (by decide)) e_) e_) (fun e_ => (fun e_ => (Kd.R_ne HO_440002.out BK401.out (by decide)) e_) e_))); replace BK420 := Aside0.mk (blk_kept zq136 hkp (fun hs_ => Or.elim hs_ (fun e_ => (fun e_ => (Kd.R_ne HO_440001.out BK420.out (by decide)) e_) e_) (fun e_ => (fun e_ => (Kd.R_ne HO_440002.out BK420.out (by decide)) e_) e_))); replace BK429 := Aside0.mk (blk_kept zq137 hkp (fun hs_ => Or.elim hs_ (fun e_ => (fun e_ => (Kd.R_ne HO_440001.out BK429.out (by decide)) e_) e_) (fun e_ => (fun e_ => (Kd.R_ne HO_440002.out BK429.out (by decide)) e_) e_))); replace BK439 := Aside0.mk (blk_kept zq138 hkp (fun hs_ => Or.elim hs_ (fun e_ => (fun e_ => (Kd.R_ne HO_440001.out BK439.out (by decide)) e_) e_) (fun e_ => (fun e_ => (Kd.R_ne HO_440002.out BK439.out (by decide)) e_) e_))); replace HO_440001 := Aside0.mk (Kd.R_reok rfl hy0 (fun k_ e_ => HO_440001.out.1 k_ e_)); replace HO_440002 := Aside0.mk (Kd.R_reok rfl hy1 (fun k_ e_ => HO_440002.out.1 k_ e_)); replace HB := Aside0.mk hb; clear hb; (try clear hkp); (try clear hy0); (try clear hy1); obtain ⟨hcz181_0, hcz181_1, hcz181_2, hcz181_3, hfz181_0, hfz181_1, hfz181_2, hfz181_3⟩ := c4 (w := w180) BK439) | ((with_reducible refine gC 32 rfl ?_); refine gL 71 Try.func32 #[.agg #[.int .i64 t430, .slice Ao40 t455.length co40, .slice Ao41 t456.length co41, .int .i64 t437], .int .i64 1] ?_ (hargs := by (try simp only [List.map_toArray, List.map_cons, List.map_nil]); first | done | (rw [show t455.length = t431.length from (Kd.R_reads' HO_440001.out).1.symm, show t456.length = t434.length from (Kd.R_reads' HO_440002.out).1.symm] <;> rfl) | rfl | (simp only [List.length_drop, List.length_take]; rfl)); (with_reducible refine (laws_heldStore.calls kj64 t430 _ _ t455 _ _ t456 t437 1 t457 _ ?_ ?_ ?_ ?_ A97.out).mono ?_); exact zq146; exact zq157; exact zq148; exact zq158; rintro e w182 ⟨rfl, hb⟩; refine ⟨_, rfl, ?_⟩; replace HO_421001 := rB zq123 hb; replace HO_421002 := rB zq124 hb; replace HO_430001 := rB zq125 hb; replace HO_430002 := rB zq126 hb; replace HO_440001 := rB zq127 hb; replace HO_440002 := rB zq128 hb; replace BK401 := bF BK401 zq81 hb; replace BK420 := bF BK420 zq94 hb; replace BK429 := bF BK429 zq102 hb; replace BK439 := bF BK439 zq122 hb; replace HB := sB zq115 hb; clear hb))
      go_ret
      exact ⟨zq4, zq115⟩
   replace c63 := Bool.eq_false_iff.mpr c63
   subst c63
   have H1 : (some false) = some r := by rw [if_neg (show ¬ (false = true) by decide)] at H; exact H
   clear H
   have H := H1
   clear H1
   obtain rfl := Option.some.inj H
   try go_wp2
   replace HO_421001 := Aside0.mk (Kd.R_drew HO_421001.out)
   replace HO_421002 := Aside0.mk (Kd.R_drew HO_421002.out)
   replace HO_430001 := Aside0.mk (Kd.R_drew HO_430001.out)
   replace HO_430002 := Aside0.mk (Kd.R_drew HO_430002.out)
   replace HO_440001 := Aside0.mk (Kd.R_drew HO_440001.out)
   replace HO_440002 := Aside0.mk (Kd.R_drew HO_440002.out)
   replace BK401 := Aside0.mk (blk_drew BK401.out)
   replace BK420 := Aside0.mk (blk_drew BK420.out)
   replace BK429 := Aside0.mk (blk_drew BK429.out)
   replace BK439 := Aside0.mk (blk_drew BK439.out)
   replace HB := Aside0.mk (below_drew1 HB.out)
   refine start_ (n := 5) (S := fun w' => w'.cell? ⟨gb429, 0, none⟩ = some (.int .i64 t421) ∧ w'.cell? ⟨gb429, 1, none⟩ = some (.slice Ao32 t422.length co32) ∧ w'.cell? ⟨gb429, 2, none⟩ = some (.slice Ao33 t425.length co33) ∧ w'.cell? ⟨gb429, 3, none⟩ = some (.int .i64 t428) ∧ w'.cell? ⟨gb401, 0, none⟩ = some (.int .i64 a0_0) ∧ w'.cell? ⟨gb401, 1, none⟩ = some (.slice A0_1 l0_1.length c0_1) ∧ w'.cell? ⟨gb401, 2, none⟩ = some (.slice A0_2 l0_2.length c0_2) ∧ w'.cell? ⟨gb401, 3, none⟩ = some (.int .i64 a0_3)) (ds := []) #[false, false, false, false, false] (by kernel_rfl) rfl rfl ⟨(blk_cell BK429.out 0).trans rfl, (blk_cell BK429.out 1).trans rfl, (blk_cell BK429.out 2).trans rfl, (blk_cell BK429.out 3).trans rfl, (blk_cell BK401.out 0).trans rfl, (blk_cell BK401.out 1).trans rfl, (blk_cell BK401.out 2).trans rfl, (blk_cell BK401.out 3).trans rfl⟩ (fun hHeld => ?_)
   generalize wc.drew = w183 at HO_421001 HO_421002 HO_430001 HO_430002 HO_440001 HO_440002 BK401 BK420 BK429 BK439 HB hHeld ⊢
   refine take_ (i := 0) (N := some 45) (v := ?_) (a' := ?_) #[true, false, false, false, false] rfl rfl (by kernel_rfl) (fun _ _ _ h => h) (Or.inl ⟨by rfl, ?_⟩) hHeld ?_ ?_
   rotate_left
   exact zq328
   rotate_left
   exact zq319
   refine take_ (i := 1) (N := some 46) (v := ?_) (a' := ?_) #[true, true, false, false, false] rfl rfl (by kernel_rfl) (fun _ _ _ h => h) (Or.inl ⟨by rfl, ?_⟩) hHeld ?_ ?_
   rotate_left
   exact zq328
   rotate_left
   exact zq319
   refine one_ (i := 2) (N := some 47) #[true, true, true, false, false] rfl rfl (by kernel_rfl) (by decide) (fun K hK => ?_)
   refine goes_ Try.func17 (by kernel_rfl) rfl #[.agg #[.int .i64 a0_0, .slice A0_1 l0_1.length c0_1, .slice A0_2 l0_2.length c0_2, .int .i64 a0_3]] (by rfl) rfl rfl zq8 ?_
   with_reducible refine (laws_toStore.calls kj11 a0_0 _ _ l0_1 _ _ l0_2 a0_3 t441 t442 t445 t448 _ ?side1 ?side2 ?side3 ?side4 A61.out).mono ?_
   (case side1 => exact zq11)
   (case side2 => exact zq12)
   (case side3 => exact zq15)
   (case side4 => exact zq16)
   rintro e w184 ⟨v443, v446, rfl, ho0, ho1, hb⟩
   refine ⟨_, rfl, ?_⟩
   have HO444 := Aside0.mk (Kd.R_lower (Kd.R_new' (Kd.R_new' (Kd.R_new' ho0 (Kd.R_lt zq123)) (Kd.R_lt zq125)) (Kd.R_lt zq127)) (below_size zq115))
   replace HO_421001 := Aside0.mk (Kd.R_elder' zq123 (Kd.R_base ho0) hb)
   replace HO_430001 := Aside0.mk (Kd.R_elder' zq125 (Kd.R_base ho0) hb)
   replace HO_440001 := Aside0.mk (Kd.R_elder' zq127 (Kd.R_base ho0) hb)
   have HO447 := Aside0.mk (Kd.R_lower (Kd.R_new' (Kd.R_new' (Kd.R_new' ho1 (Kd.R_lt zq124)) (Kd.R_lt zq126)) (Kd.R_lt zq128)) (below_size zq115))
   replace HO_421002 := Aside0.mk (Kd.R_elder' zq124 (Kd.R_base ho1) hb)
   replace HO_430002 := Aside0.mk (Kd.R_elder' zq126 (Kd.R_base ho1) hb)
   replace HO_440002 := Aside0.mk (Kd.R_elder' zq128 (Kd.R_base ho1) hb)
   replace BK401 := bF BK401 zq81 hb
   replace BK420 := bF BK420 zq94 hb
   replace BK429 := bF BK429 zq102 hb
   replace BK439 := bF BK439 zq122 hb
   replace HB := sB zq115 hb
   (try clear hb)
   (try clear hb2)
   (try clear hk)
   (try clear hi)
   (try clear ho0)
   (try clear ho1)
   obtain ⟨Ao185, co185, eo185⟩ := Kd.R_slice HO444.out
   (first | subst eo185 | (injection eo185 with f1_ f2_ f3_; have f4_ := f1_.symm; have f5_ := f3_.symm; clear f1_ f2_ f3_; subst f4_; subst f5_))
   obtain ⟨Ao186, co186, eo186⟩ := Kd.R_slice HO447.out
   (first | subst eo186 | (injection eo186 with f1_ f2_ f3_; have f4_ := f1_.symm; have f5_ := f3_.symm; clear f1_ f2_ f3_; subst f4_; subst f5_))
   refine hK.out _ _ ⟨(blk_cell BK429.out 0).trans rfl, (blk_cell BK429.out 1).trans rfl, (blk_cell BK429.out 2).trans rfl, (blk_cell BK429.out 3).trans rfl, (blk_cell BK401.out 0).trans rfl, (blk_cell BK401.out 1).trans rfl, (blk_cell BK401.out 2).trans rfl, (blk_cell BK401.out 3).trans rfl⟩ (fun hHeld => ?_)
   clear hK K
   refine norm_ (a' := ?_) ?_ ?_
   rotate_left
   ·
    show Act.put _ (some 47) _ = _
    simp only [Act.put, List.setIfInBounds_toArray, List.set_cons_zero, List.set_cons_succ, i64_w, i32_w]
    rfl
   refine one_ (i := 3) (N := some 48) #[true, true, true, true, false] rfl rfl (by kernel_rfl) (by decide) (fun K hK => ?_)
   refine goes_ Try.func19 (by kernel_rfl) rfl #[.agg #[.int .i64 t421, .slice Ao32 t422.length co32, .slice Ao33 t425.length co33, .int .i64 t428], .agg #[.int .i64 t441, .slice Ao185 t442.length co185, .slice Ao186 t445.length co186, .int .i64 t448]] (by rfl) rfl rfl zq8 ?_
   with_reducible refine (laws_eqStore.calls kj11 t421 _ _ t422 _ _ t425 t428 t441 _ _ t442 _ _ t445 t448 false _ ?side1 ?side2 ?side3 ?side4 ?side5 ?side6 ?side7 ?side8 A62.out).mono ?_
   (case side1 => exact zq129)
   (case side2 => exact (Kd.R_reads' HO_430001.out).2.1)
   (case side3 => exact zq130)
   (case side4 => exact (Kd.R_reads' HO_430002.out).2.1)
   (case side5 => exact zq131)
   (case side6 => exact (Kd.R_reads' HO444.out).2.1)
   (case side7 => exact zq132)
   (case side8 => exact (Kd.R_reads' HO447.out).2.1)
   rintro e w187 ⟨rfl, hb⟩
   refine ⟨_, rfl, ?_⟩
   replace HO_421001 := rB zq123 hb
   replace HO_421002 := rB zq124 hb
   replace HO_430001 := rB zq125 hb
   replace HO_430002 := rB zq126 hb
   replace HO_440001 := rB zq127 hb
   replace HO_440002 := rB zq128 hb
   replace HO444 := rB zq133 hb
   replace HO447 := rB zq134 hb
   replace BK401 := bF BK401 zq81 hb
   replace BK420 := bF BK420 zq94 hb
   replace BK429 := bF BK429 zq102 hb
   replace BK439 := bF BK439 zq122 hb
   replace HB := sB zq115 hb
   (try clear hb)
   (try clear hb2)
   (try clear hk)
   (try clear hi)
   refine hK.out _ _ ⟨(blk_cell BK429.out 0).trans rfl, (blk_cell BK429.out 1).trans rfl, (blk_cell BK429.out 2).trans rfl, (blk_cell BK429.out 3).trans rfl, (blk_cell BK401.out 0).trans rfl, (blk_cell BK401.out 1).trans rfl, (blk_cell BK401.out 2).trans rfl, (blk_cell BK401.out 3).trans rfl⟩ (fun hHeld => ?_)
   clear hK K
   refine norm_ (a' := ?_) ?_ ?_
   rotate_left
   ·
    show Act.put _ (some 48) _ = _
    simp only [Act.put, List.setIfInBounds_toArray, List.set_cons_zero, List.set_cons_succ, i64_w, i32_w]
    rfl
   refine pure_ (i := 4) (N := some 49) (v := ?_) (a' := ?_) #[true, true, true, true, true] rfl rfl (by kernel_rfl) (fun _ _ _ h => h) (Or.inl ⟨by rfl, ?_⟩) ?_ ?_
   rotate_left
   exact zq318
   rotate_left
   exact zq319
   refine done_ (by kernel_rfl) ?_
   try go_wp2
   go_ret
   exact ⟨zq4, zq115⟩

/-- THE ONE PURE STATEMENT of laws_FnExactAbort. -/
def laws_FnExactAbort.Pure : Prop := ∀ (a0_0 : Int) (l0_1 : List (S95)) (l0_2 : List (S97)) (a0_3 : Int) (a1 : Int), (Lit.int .i64 a0_0).wf = true → (l0_1.length ≤ maxLen ∧ ∀ y0_ ∈ l0_1, (y0_.f0.size ≤ maxLen ∧ y0_.f1.size ≤ maxLen)) → (l0_2.length ≤ maxLen ∧ ∀ y0_ ∈ l0_2, ((Lit.int .i64 y0_.f0).wf = true ∧ y0_.f1.size ≤ maxLen)) → (Lit.int .i64 a0_3).wf = true → (Lit.int .i64 a1).wf = true → ∃ k, laws_FnExactAbort.f k a0_0 l0_1 l0_2 a0_3 a1 = some true

end Go.Proofs.Ytacaeebjanglgaa.QFnExactAbort
