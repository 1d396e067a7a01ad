/- Written by wip/myprint.py of this repo (the kit's print, with additions of this session). -/
import Derived.Test.YtacaeebjanglgaaQFnExactDropBlobx0
import Derived.Test.YtacaeebjanglgaaQFnExactDropBlobx1
import Derived.Test.YtacaeebjanglgaaQFnExactDropBlobx3
import Derived.Test.YtacaeebjanglgaaQFnExactDropBlobx4
import Derived.Test.YtacaeebjanglgaaQFnExactDropBlobx5
import Derived.Test.YtacaeebjanglgaaQFnExactDropBlobx9
import Derived.Test.YtacaeebjanglgaaQFnExactDropBlobx14
set_option maxRecDepth 100000
namespace Go.Proofs.Ytacaeebjanglgaa.QFnExactDropBlob
open Go.RowKit Go.Proofs.YtacaeebjanglgaaW.PrintWords Go.Proofs.YtacaeebjanglgaaW.PrintLast Go.Proofs.YtacaeebjanglgaaW.PrintMore
attribute [local go_sem] max2_int min2_int max_two min_two max_three min_three max_four min_four   -- for this text's walks alone
set_option linter.unusedVariables false
set_option linter.unusedSimpArgs false

/-! ### laws_FnExactDropBlob: function 10 -/
mutual
def laws_FnExactDropBlob.j0 : Nat → ByteArray → Bool → Bool → Bool → Int → List (S95) → List (S97) → Int → Int → List (S66) → List (S68) → Int → Int → List (S66) → List (S68) → Int → Int → List (S66) → List (S68) → Int → Option (Bool)
 | 0, _, _, _, _, _, _, _, _, _, _, _, _, _, _, _, _, _, _, _, _ => none
 | k + 1, x1, x7, x10, x47, x403000, x403001, x403002, x403003, x422000, x422001, x422002, x422003, x431000, x431001, x431002, x431003, x441000, x441001, x441002, x441003 => if x47 = true then (some false) else ((laws_toStore.f k x403000 x403001 x403002 x403003).bind fun bt442 => ((laws_eqStore.f k x431000 x431001 x431002 x431003 bt442.1 bt442.2.1 bt442.2.2.1 bt442.2.2.2).bind fun t450 => (if t450 = true then ((laws_markStore.f k x431000 x431001 x431002 x431003 1).bind fun bt451 => (if bt451.1 < 0 then (laws_FnExactDropBlob.j1 k x1 x7 true x403000 x403001 x403002 x403003 x422000 x422001 x422002 x422003 x441000 x441001 x441002 x441003) else ((laws_eqStore.f k x441000 x441001 x441002 x441003 x422000 x422001 x422002 x422003).bind fun t454 => (if t454 = true then (laws_FnExactDropBlob.j1 k x1 x7 (x10 != x7) x403000 x403001 x403002 x403003 x422000 x422001 x422002 x422003 x441000 x441001 x441002 x441003) else (laws_FnExactDropBlob.j1 k x1 x7 true x403000 x403001 x403002 x403003 x422000 x422001 x422002 x422003 x441000 x441001 x441002 x441003))))) else (some false))))
def laws_FnExactDropBlob.j1 : Nat → ByteArray → Bool → Bool → Int → List (S95) → List (S97) → Int → Int → List (S66) → List (S68) → Int → Int → List (S66) → List (S68) → Int → Option (Bool)
 | 0, _, _, _, _, _, _, _, _, _, _, _, _, _, _, _ => none
 | k + 1, x1, x7, x68, x403000, x403001, x403002, x403003, x422000, x422001, x422002, x422003, x441000, x441001, x441002, x441003 => if x68 = true then (some false) else ((laws_markStore.f k x441000 x441001 x441002 x441003 1).bind fun bt455 => ((laws_heldStore.f k x441000 bt455.2.1 bt455.2.2 x441003 1).bind fun t458 => (if t458 < 0 then (some false) else (if t458 = bt455.1 then ((laws_toStore.f k x403000 x403001 x403002 x403003).bind fun bt459 => ((impl_DropBlob.f k bt459.1 bt459.2.1 bt459.2.2.1 bt459.2.2.2 x1).bind fun bt467 => ((laws_eqStore.f k bt467.1 bt467.2.1 bt467.2.2.1 bt467.2.2.2.1 x422000 x422001 x422002 x422003).bind fun t477 => (if t477 = true then (laws_FnExactDropBlob.j2 k bt455.1 (bt467.2.2.2.2 != x7) x441000 bt455.2.1 bt455.2.2 x441003) else (laws_FnExactDropBlob.j2 k bt455.1 true x441000 bt455.2.1 bt455.2.2 x441003))))) else (some false)))))
def laws_FnExactDropBlob.j2 : Nat → Int → Bool → Int → List (S66) → List (S68) → Int → Option (Bool)
 | 0, _, _, _, _, _, _ => none
 | k + 1, x12, x95, x441000, x441001, x441002, x441003 => if x95 = true then (some false) else ((laws_heldStore.f k x441000 x441001 x441002 x441003 1).bind fun t478 => (if t478 < 0 then (some false) else (if t478 = x12 then (some true) else (some false))))
end
def laws_FnExactDropBlob.f (k : Nat) (a0_0 : Int) (l0_1 : List (S95)) (l0_2 : List (S97)) (a0_3 : Int) (a1 : ByteArray) : Option (Bool) := if (a1.size : Int) > 1048576 then (some true) else ((laws_szStore.f k a0_0 l0_1 l0_2 a0_3 1048576).bind fun t403 => (if t403 < 0 then (some true) else ((laws_toStore.f k a0_0 l0_1 l0_2 a0_3).bind fun bt404 => ((spec_DropBlob.f k bt404.1 bt404.2.1 bt404.2.2.1 bt404.2.2.2 a1).bind fun bt412 => ((laws_toStore.f k a0_0 l0_1 l0_2 a0_3).bind fun bt422 => ((impl_DropBlob.f k bt422.1 bt422.2.1 bt422.2.2.1 bt422.2.2.2 a1).bind fun bt431 => ((laws_eqStore.f k bt431.1 bt431.2.1 bt431.2.2.1 bt431.2.2.2.1 bt412.1 bt412.2.1 bt412.2.2.1 bt412.2.2.2.1).bind fun t441 => (if t441 = true then (laws_FnExactDropBlob.j0 k a1 bt412.2.2.2.2 bt431.2.2.2.2 (bt431.2.2.2.2 != bt412.2.2.2.2) a0_0 l0_1 l0_2 a0_3 bt412.1 bt412.2.1 bt412.2.2.1 bt412.2.2.2.1 bt422.1 bt422.2.1 bt422.2.2.1 bt422.2.2.2 bt431.1 bt431.2.1 bt431.2.2.1 bt431.2.2.2.1) else (laws_FnExactDropBlob.j0 k a1 bt412.2.2.2.2 bt431.2.2.2.2 true a0_0 l0_1 l0_2 a0_3 bt412.1 bt412.2.1 bt412.2.2.1 bt412.2.2.2.1 bt422.1 bt422.2.1 bt422.2.2.1 bt422.2.2.2 bt431.1 bt431.2.1 bt431.2.2.1 bt431.2.2.2.1)))))))))
theorem laws_FnExactDropBlob.mono_l : ∀ k, (∀ y0 y1 y2 y3 y4 y5 y6 y7 y8 y9 y10 y11 y12 y13 y14 y15 y16 y17 y18 y19, LeO (laws_FnExactDropBlob.j0 k y0 y1 y2 y3 y4 y5 y6 y7 y8 y9 y10 y11 y12 y13 y14 y15 y16 y17 y18 y19) (laws_FnExactDropBlob.j0 (k + 1) y0 y1 y2 y3 y4 y5 y6 y7 y8 y9 y10 y11 y12 y13 y14 y15 y16 y17 y18 y19)) ∧ (∀ y0 y1 y2 y3 y4 y5 y6 y7 y8 y9 y10 y11 y12 y13 y14, LeO (laws_FnExactDropBlob.j1 k y0 y1 y2 y3 y4 y5 y6 y7 y8 y9 y10 y11 y12 y13 y14) (laws_FnExactDropBlob.j1 (k + 1) y0 y1 y2 y3 y4 y5 y6 y7 y8 y9 y10 y11 y12 y13 y14)) ∧ (∀ y0 y1 y2 y3 y4 y5, LeO (laws_FnExactDropBlob.j2 k y0 y1 y2 y3 y4 y5) (laws_FnExactDropBlob.j2 (k + 1) y0 y1 y2 y3 y4 y5))
 | 0 => ⟨fun _ _ _ _ _ _ _ _ _ _ _ _ _ _ _ _ _ _ _ _ r h => by simp [laws_FnExactDropBlob.j0] at h, fun _ _ _ _ _ _ _ _ _ _ _ _ _ _ _ r h => by simp [laws_FnExactDropBlob.j1] at h, fun _ _ _ _ _ _ r h => by simp [laws_FnExactDropBlob.j2] at h⟩
 | k + 1 => by
  obtain ⟨ih0, ih1, ih2⟩ := laws_FnExactDropBlob.mono_l k
  refine ⟨?_, ?_, ?_⟩
  ·
   intro y0 y1 y2 y3 y4 y5 y6 y7 y8 y9 y10 y11 y12 y13 y14 y15 y16 y17 y18 y19
   unfold laws_FnExactDropBlob.j0
   repeat' first
   | (with_reducible exact ih0 _ _ _ _ _ _ _ _ _ _ _ _ _ _ _ _ _ _ _ _)
   | (with_reducible exact ih1 _ _ _ _ _ _ _ _ _ _ _ _ _ _ _)
   | (with_reducible exact ih2 _ _ _ _ _ _)
   | (with_reducible exact impl_DropBlob.mono _ _ _ _ _ _)
   | (with_reducible exact laws_eqStore.mono _ _ _ _ _ _ _ _ _)
   | (with_reducible exact laws_heldStore.mono _ _ _ _ _ _)
   | (with_reducible exact laws_markStore.mono _ _ _ _ _ _)
   | (with_reducible exact laws_szStore.mono _ _ _ _ _ _)
   | (with_reducible exact laws_toStore.mono _ _ _ _ _)
   | (with_reducible exact spec_DropBlob.mono _ _ _ _ _ _)
   | (with_reducible exact LeO.refl _)
   | (with_reducible exact LeO.none _)
   | (with_reducible refine LeO.ite ?_ ?_)
   | (with_reducible refine LeO.bind ?_ (fun _ => ?_))
   | exact LeO.none _
   | refine LeO.ite ?_ ?_
   | refine LeO.bind ?_ (fun _ => ?_)
  ·
   intro y0 y1 y2 y3 y4 y5 y6 y7 y8 y9 y10 y11 y12 y13 y14
   unfold laws_FnExactDropBlob.j1
   repeat' first
   | (with_reducible exact ih0 _ _ _ _ _ _ _ _ _ _ _ _ _ _ _ _ _ _ _ _)
   | (with_reducible exact ih1 _ _ _ _ _ _ _ _ _ _ _ _ _ _ _)
   | (with_reducible exact ih2 _ _ _ _ _ _)
   | (with_reducible exact impl_DropBlob.mono _ _ _ _ _ _)
   | (with_reducible exact laws_eqStore.mono _ _ _ _ _ _ _ _ _)
   | (with_reducible exact laws_heldStore.mono _ _ _ _ _ _)
   | (with_reducible exact laws_markStore.mono _ _ _ _ _ _)
   | (with_reducible exact laws_szStore.mono _ _ _ _ _ _)
   | (with_reducible exact laws_toStore.mono _ _ _ _ _)
   | (with_reducible exact spec_DropBlob.mono _ _ _ _ _ _)
   | (with_reducible exact LeO.refl _)
   | (with_reducible exact LeO.none _)
   | (with_reducible refine LeO.ite ?_ ?_)
   | (with_reducible refine LeO.bind ?_ (fun _ => ?_))
   | exact LeO.none _
   | refine LeO.ite ?_ ?_
   | refine LeO.bind ?_ (fun _ => ?_)
  intro y0 y1 y2 y3 y4 y5
  unfold laws_FnExactDropBlob.j2
  repeat' first
  | (with_reducible exact ih0 _ _ _ _ _ _ _ _ _ _ _ _ _ _ _ _ _ _ _ _)
  | (with_reducible exact ih1 _ _ _ _ _ _ _ _ _ _ _ _ _ _ _)
  | (with_reducible exact ih2 _ _ _ _ _ _)
  | (with_reducible exact impl_DropBlob.mono _ _ _ _ _ _)
  | (with_reducible exact laws_eqStore.mono _ _ _ _ _ _ _ _ _)
  | (with_reducible exact laws_heldStore.mono _ _ _ _ _ _)
  | (with_reducible exact laws_markStore.mono _ _ _ _ _ _)
  | (with_reducible exact laws_szStore.mono _ _ _ _ _ _)
  | (with_reducible exact laws_toStore.mono _ _ _ _ _)
  | (with_reducible exact spec_DropBlob.mono _ _ _ _ _ _)
  | (with_reducible exact LeO.refl _)
  | (with_reducible exact LeO.none _)
  | (with_reducible refine LeO.ite ?_ ?_)
  | (with_reducible refine LeO.bind ?_ (fun _ => ?_))
  | exact LeO.none _
  | refine LeO.ite ?_ ?_
  | refine LeO.bind ?_ (fun _ => ?_)
theorem laws_FnExactDropBlob.mono : ∀ a0 a1 a2 a3 a4 k, LeO (laws_FnExactDropBlob.f k a0 a1 a2 a3 a4) (laws_FnExactDropBlob.f (k + 1) a0 a1 a2 a3 a4) := by
 intro a0 a1 a2 a3 a4 k
 obtain ⟨ih0, ih1, ih2⟩ := laws_FnExactDropBlob.mono_l k
 unfold laws_FnExactDropBlob.f
 repeat' first
   | (with_reducible exact ih0 _ _ _ _ _ _ _ _ _ _ _ _ _ _ _ _ _ _ _ _)
   | (with_reducible exact ih1 _ _ _ _ _ _ _ _ _ _ _ _ _ _ _)
   | (with_reducible exact ih2 _ _ _ _ _ _)
   | (with_reducible exact impl_DropBlob.mono _ _ _ _ _ _)
   | (with_reducible exact laws_eqStore.mono _ _ _ _ _ _ _ _ _)
   | (with_reducible exact laws_heldStore.mono _ _ _ _ _ _)
   | (with_reducible exact laws_markStore.mono _ _ _ _ _ _)
   | (with_reducible exact laws_szStore.mono _ _ _ _ _ _)
   | (with_reducible exact laws_toStore.mono _ _ _ _ _)
   | (with_reducible exact spec_DropBlob.mono _ _ _ _ _ _)
   | (with_reducible exact LeO.refl _)
   | (with_reducible exact LeO.none _)
   | (with_reducible refine LeO.ite ?_ ?_)
   | (with_reducible refine LeO.bind ?_ (fun _ => ?_))
   | exact LeO.none _
   | refine LeO.ite ?_ ?_
   | refine LeO.bind ?_ (fun _ => ?_)
set_option maxHeartbeats 8000000 in
set_option maxRecDepth 100000 in
theorem laws_FnExactDropBlob.calls (k : Nat) (a0_0 : Int) (A0_1 : Option Addr) (c0_1 : Nat) (l0_1 : List (S95)) (A0_2 : Option Addr) (c0_2 : Nat) (l0_2 : List (S97)) (a0_3 : Int) (a1 : ByteArray) (r : Bool) (w : World) (hr0_1 : Kd.C k95 w A0_1 l0_1.length l0_1) (hc0_1 : l0_1.length ≤ c0_1) (hr0_2 : Kd.C k97 w A0_2 l0_2.length l0_2) (hc0_2 : l0_2.length ≤ c0_2) (h : laws_FnExactDropBlob.f k a0_0 l0_1 l0_2 a0_3 a1 = some r) :
  Calls Try.prog 10 #[.agg #[.int .i64 a0_0, .slice A0_1 l0_1.length c0_1, .slice A0_2 l0_2.length c0_2, .int .i64 a0_3], .string a1] w fun e w' => e = .returned (.bool r) ∧ Below w.heap.size w w' := by
 have hu25 := Try.underlying25
 have hu31 := Try.underlying31
 have HR0_1 := Aside0.mk hr0_1
 have HC0_1 := Aside0.mk hc0_1
 clear hr0_1 hc0_1
 have HR0_2 := Aside0.mk hr0_2
 have HC0_2 := Aside0.mk hc0_2
 clear hr0_2 hc0_2
 have HB := Aside0.mk (Below.refl w.heap.size w)
 have H : (if (a1.size : Int) > 1048576 then (some true) else ((laws_szStore.f k a0_0 l0_1 l0_2 a0_3 1048576).bind fun t403 => (if t403 < 0 then (some true) else ((laws_toStore.f k a0_0 l0_1 l0_2 a0_3).bind fun bt404 => ((spec_DropBlob.f k bt404.1 bt404.2.1 bt404.2.2.1 bt404.2.2.2 a1).bind fun bt412 => ((laws_toStore.f k a0_0 l0_1 l0_2 a0_3).bind fun bt422 => ((impl_DropBlob.f k bt422.1 bt422.2.1 bt422.2.2.1 bt422.2.2.2 a1).bind fun bt431 => ((laws_eqStore.f k bt431.1 bt431.2.1 bt431.2.2.1 bt431.2.2.2.1 bt412.1 bt412.2.1 bt412.2.2.1 bt412.2.2.2.1).bind fun t441 => (if t441 = true then (laws_FnExactDropBlob.j0 k a1 bt412.2.2.2.2 bt431.2.2.2.2 (bt431.2.2.2.2 != bt412.2.2.2.2) a0_0 l0_1 l0_2 a0_3 bt412.1 bt412.2.1 bt412.2.2.1 bt412.2.2.2.1 bt422.1 bt422.2.1 bt422.2.2.1 bt422.2.2.2 bt431.1 bt431.2.1 bt431.2.2.1 bt431.2.2.2.1) else (laws_FnExactDropBlob.j0 k a1 bt412.2.2.2.2 bt431.2.2.2.2 true a0_0 l0_1 l0_2 a0_3 bt412.1 bt412.2.1 bt412.2.2.1 bt412.2.2.2.1 bt422.1 bt422.2.1 bt422.2.2.1 bt422.2.2.2 bt431.1 bt431.2.1 bt431.2.2.1 bt431.2.2.2.1)))))))))) = some r := h
 clear h
 by_cases c3 : (a1.size : Int) > 1048576
 ·
  rw [if_pos c3] at H
  have c3b0 : decide (1048576 < (a1.size : Int)) = true := decide_eq_true c3
  have c3b1 : decide (1048576 < a1.size) = true := decide_eq_true (by omega)
  clear c3
  obtain rfl := Option.some.inj H
  go_enter Try.func10, Try.ntmps10
  go_wp2_with (first | ((with_reducible refine gate_dst (N := 2) rfl ?_); refine box_event ?hg (N := 2) ?hd (cs := #[.int .i64 a0_0, .slice A0_1 l0_1.length c0_1, .slice A0_2 l0_2.length c0_2, .int .i64 a0_3]) (t := 25) ?hr ?_; (case hd => rfl); (case hg => rfl); (case hr => exact zq2); intro gb402 hg w4 hbox hb; have BK402 := Aside0.mk hbox; have GW402 := Aside0.mk (zq254 : w.heap.size ≤ gb402); have GE402 := Aside0.mk (zq254 : w.heap.size ≤ gb402); replace HB := sB zq3 hb; clear hb hbox hg))
  go_ret
  exact ⟨zq4, zq81⟩
 rw [if_neg c3] at H
 have c3b0 : decide (1048576 < (a1.size : Int)) = false := decide_eq_false c3
 have c3b1 : decide (1048576 < a1.size) = false := decide_eq_false (by omega)
 clear c3
 replace H := Option.bind_eq_some_iff.mp H
 obtain ⟨t403, A50, H⟩ := H
 try dsimp only at H
 have A5 := Aside0.mk A50
 clear A50
 by_cases c6 : t403 < 0
 ·
  rw [if_pos c6] at H
  have c6b0 := decide_eq_true c6
  clear c6
  obtain rfl := Option.some.inj H
  go_enter Try.func10, Try.ntmps10
  go_wp2_with (first | ((with_reducible refine gate_dst (N := 2) rfl ?_); refine box_event ?hg (N := 2) ?hd (cs := #[.int .i64 a0_0, .slice A0_1 l0_1.length c0_1, .slice A0_2 l0_2.length c0_2, .int .i64 a0_3]) (t := 25) ?hr ?_; (case hd => rfl); (case hg => rfl); (case hr => exact zq2); intro gb402 hg w7 hbox hb; have BK402 := Aside0.mk hbox; have GW402 := Aside0.mk (zq254 : w.heap.size ≤ gb402); have GE402 := Aside0.mk (zq254 : w.heap.size ≤ gb402); replace HB := sB zq3 hb; clear hb hbox hg; obtain ⟨hcz8_0, hcz8_1, hcz8_2, hcz8_3, hfz8_0, hfz8_1, hfz8_2, hfz8_3⟩ := c4 (w := w7) BK402) | ((with_reducible refine gC 15 rfl ?_); refine gL 21 Try.func15 #[.agg #[.int .i64 a0_0, .slice A0_1 l0_1.length c0_1, .slice A0_2 l0_2.length c0_2, .int .i64 a0_3], .int .i64 1048576] ?_; (with_reducible refine (laws_szStore.calls k a0_0 _ _ l0_1 _ _ l0_2 a0_3 1048576 t403 _ ?_ ?_ ?_ ?_ A5.out).mono ?_); exact zq11; exact zq12; exact zq15; exact zq16; rintro e w9 ⟨rfl, hb⟩; refine ⟨_, rfl, ?_⟩; replace BK402 := bF BK402 zq82 hb; replace HB := sB zq81 hb; clear hb))
  go_ret
  exact ⟨zq4, zq81⟩
 rw [if_neg c6] at H
 have c6b0 := decide_eq_false c6
 clear c6
 replace H := Option.bind_eq_some_iff.mp H
 obtain ⟨⟨t404, t405, t408, t411⟩, A100, H⟩ := H
 try dsimp only at H
 have A10 := Aside0.mk A100
 clear A100
 replace H := Option.bind_eq_some_iff.mp H
 obtain ⟨⟨t412, t413, t416, t419, t420⟩, A110, H⟩ := H
 try dsimp only at H
 have A11 := Aside0.mk A110
 clear A110
 replace H := Option.bind_eq_some_iff.mp H
 obtain ⟨⟨t422, t423, t426, t429⟩, A120, H⟩ := H
 try dsimp only at H
 have A12 := Aside0.mk A120
 clear A120
 replace H := Option.bind_eq_some_iff.mp H
 obtain ⟨⟨t431, t432, t435, t438, t439⟩, A130, H⟩ := H
 try dsimp only at H
 have A13 := Aside0.mk A130
 clear A130
 have HC14 := Aside0.mk H
 clear H
 go_enter Try.func10, Try.ntmps10
 go_upto_region 10 with (first | ((with_reducible refine gate_dst (N := 2) rfl ?_); refine box_event ?hg (N := 2) ?hd (cs := #[.int .i64 a0_0, .slice A0_1 l0_1.length c0_1, .slice A0_2 l0_2.length c0_2, .int .i64 a0_3]) (t := 25) ?hr ?_; (case hd => rfl); (case hg => rfl); (case hr => exact zq2); intro gb402 hg w15 hbox hb; have BK402 := Aside0.mk hbox; have GW402 := Aside0.mk (zq254 : w.heap.size ≤ gb402); have GE402 := Aside0.mk (zq254 : w.heap.size ≤ gb402); replace HB := sB zq3 hb; clear hb hbox hg; obtain ⟨hcz16_0, hcz16_1, hcz16_2, hcz16_3, hfz16_0, hfz16_1, hfz16_2, hfz16_3⟩ := c4 (w := w15) BK402) | ((with_reducible refine gC 15 rfl ?_); refine gL 21 Try.func15 #[.agg #[.int .i64 a0_0, .slice A0_1 l0_1.length c0_1, .slice A0_2 l0_2.length c0_2, .int .i64 a0_3], .int .i64 1048576] ?_; (with_reducible refine (laws_szStore.calls k a0_0 _ _ l0_1 _ _ l0_2 a0_3 1048576 t403 _ ?_ ?_ ?_ ?_ A5.out).mono ?_); exact zq11; exact zq12; exact zq15; exact zq16; rintro e w17 ⟨rfl, hb⟩; refine ⟨_, rfl, ?_⟩; replace BK402 := bF BK402 zq82 hb; replace HB := sB zq81 hb; clear hb; obtain ⟨hcz18_0, hcz18_1, hcz18_2, hcz18_3, hfz18_0, hfz18_1, hfz18_2, hfz18_3⟩ := c4 (w := w17) BK402) | ((with_reducible refine gC 17 rfl ?_); refine gL 26 Try.func17 #[.agg #[.int .i64 a0_0, .slice A0_1 l0_1.length c0_1, .slice A0_2 l0_2.length c0_2, .int .i64 a0_3]] ?_; (with_reducible refine (laws_toStore.calls k a0_0 _ _ l0_1 _ _ l0_2 a0_3 t404 t405 t408 t411 _ ?_ ?_ ?_ ?_ A10.out).mono ?_); exact zq11; exact zq12; exact zq15; exact zq16; rintro e w19 ⟨v406, v409, rfl, ho0, ho1, hb⟩; refine ⟨_, rfl, ?_⟩; have HO407 := Aside0.mk (Kd.R_lower ho0 (below_size zq81)); have HO410 := Aside0.mk (Kd.R_lower ho1 (below_size zq81)); replace BK402 := bF BK402 zq82 hb; replace HB := sB zq81 hb; clear hb; (try clear ho0); (try clear ho1); obtain ⟨Ao20, co20, eo20⟩ := Kd.R_slice HO407.out; subst eo20; obtain ⟨Ao21, co21, eo21⟩ := Kd.R_slice HO410.out; subst eo21) | ((with_reducible refine gC 37 rfl ?_); refine gL 28 Try.func37 #[.agg #[.int .i64 t404, .slice Ao20 t405.length co20, .slice Ao21 t408.length co21, .int .i64 t411], .string a1] ?_; (with_reducible refine (spec_DropBlob.calls k t404 _ _ t405 _ _ t408 t411 a1 t412 t413 t416 t419 t420 _ ?side1 ?_ ?side3 ?_ A11.out).mono ?_); (case side1 => repeat (first | exact (Kd.R_reads' HO407.out).2.2 | (with_reducible refine Kd.C_alloc ?_ _) | (with_reducible refine Kd.C_drewN ?_ _) | (with_reducible refine Kd.C_drew ?_))); exact (Kd.R_reads' HO407.out).2.1; (case side3 => repeat (first | exact (Kd.R_reads' HO410.out).2.2 | (with_reducible refine Kd.C_alloc ?_ _) | (with_reducible refine Kd.C_drewN ?_ _) | (with_reducible refine Kd.C_drew ?_))); exact (Kd.R_reads' HO410.out).2.1; rintro e w22 ⟨v414, v417, rfl, ho0, ho1, hb⟩; refine ⟨_, rfl, ?_⟩; have HO415 := Aside0.mk (Kd.R_lower (Kd.R_new' ho0 (Kd.R_lt zq83)) (below_size zq81)); replace HO407 := Aside0.mk (Kd.R_elder' zq83 (Kd.R_base ho0) hb); have HO418 := Aside0.mk (Kd.R_lower (Kd.R_new' ho1 (Kd.R_lt zq84)) (below_size zq81)); replace HO410 := Aside0.mk (Kd.R_elder' zq84 (Kd.R_base ho1) hb); replace BK402 := bF BK402 zq82 hb; replace HB := sB zq81 hb; clear hb; (try clear ho0); (try clear ho1)) | ((with_reducible refine gate_dst (N := 6) rfl ?_); refine box_event ?hg (N := 6) ?hd (cs := #[.int .i64 0, .slice none 0 0, .slice none 0 0, .int .i64 0]) (t := 31) ?hr ?_; (case hd => rfl); (case hg => rfl); (case hr => exact zq2); intro gb421 hg w23 hbox hb; replace HO407 := rB zq83 hb; replace HO410 := rB zq84 hb; replace HO415 := rB zq85 hb; replace HO418 := rB zq86 hb; have BK421 := Aside0.mk hbox; have GW421 := Aside0.mk (by rw [hg]; exact (below_size zq81) : w.heap.size ≤ gb421); have GE421 := Aside0.mk (by rw [hg]; exact (below_size zq81) : w.heap.size ≤ gb421); replace HB := sB zq81 hb; have NB402_421 := Aside0.mk (zq279 : gb402 ≠ gb421); have NB421_402 := Aside0.mk (zq280 : gb421 ≠ gb402); replace BK402 := bF BK402 zq82 hb; clear hb hbox hg; have hnb24 := NB421_402.out; have hnc24 := NB402_421.out; obtain ⟨hcz25_0, hcz25_1, hcz25_2, hcz25_3, hfz25_0, hfz25_1, hfz25_2, hfz25_3⟩ := c4 (w := w23) BK421; obtain ⟨Ao26, co26, eo26⟩ := Kd.R_slice HO415.out; subst eo26; obtain ⟨Ao27, co27, eo27⟩ := Kd.R_slice HO418.out; subst eo27; obtain ⟨hcz28_0, hcz28_1, hcz28_2, hcz28_3, hfz28_0, hfz28_1, hfz28_2, hfz28_3⟩ := c4 (w := w23) BK402) | ((with_reducible refine gC 17 rfl ?_); refine gL 32 Try.func17 #[.agg #[.int .i64 a0_0, .slice A0_1 l0_1.length c0_1, .slice A0_2 l0_2.length c0_2, .int .i64 a0_3]] ?_; (with_reducible refine (laws_toStore.calls k a0_0 _ _ l0_1 _ _ l0_2 a0_3 t422 t423 t426 t429 _ ?_ ?_ ?_ ?_ A12.out).mono ?_); exact Kd.C_below HR0_1.out zq87; exact zq12; exact Kd.C_below HR0_2.out zq87; exact zq16; rintro e w29 ⟨v424, v427, rfl, ho0, ho1, hb⟩; refine ⟨_, rfl, ?_⟩; have HO425 := Aside0.mk (Kd.R_lower (Kd.R_new' (Kd.R_new' ho0 (Kd.R_lt zq88)) (Kd.R_lt zq90)) (below_size zq87)); replace HO407 := Aside0.mk (Kd.R_elder' zq88 (Kd.R_base ho0) hb); replace HO415 := Aside0.mk (Kd.R_elder' zq90 (Kd.R_base ho0) hb); have HO428 := Aside0.mk (Kd.R_lower (Kd.R_new' (Kd.R_new' ho1 (Kd.R_lt zq89)) (Kd.R_lt zq91)) (below_size zq87)); replace HO410 := Aside0.mk (Kd.R_elder' zq89 (Kd.R_base ho1) hb); replace HO418 := Aside0.mk (Kd.R_elder' zq91 (Kd.R_base ho1) hb); replace BK402 := bF BK402 (by (with_reducible repeat (first | refine blk_drewN ?_ _ | refine blk_drew ?_ | refine blk_alloc ?_ _)); refine blk_far ?_ NB402_421.out _; (with_reducible repeat (first | refine blk_drewN ?_ _ | refine blk_drew ?_ | refine blk_alloc ?_ _)); refine blk_far ?_ NB402_421.out _; (with_reducible repeat (first | refine blk_drewN ?_ _ | refine blk_drew ?_ | refine blk_alloc ?_ _)); refine blk_far ?_ NB402_421.out _; (with_reducible repeat (first | refine blk_drewN ?_ _ | refine blk_drew ?_ | refine blk_alloc ?_ _)); refine blk_far ?_ NB402_421.out _; (with_reducible repeat (first | refine blk_drewN ?_ _ | refine blk_drew ?_ | refine blk_alloc ?_ _)); exact BK402.out) hb; replace BK421 := bB (g := gb421) (o := .cells #[.int .i64 t412, .slice Ao26 t413.length co26, .slice Ao27 t416.length co27, .int .i64 t419] 31 (0, 0)) (by (with_reducible repeat (first | refine blk_drewN ?_ _ | refine blk_drew ?_ | refine blk_alloc ?_ _)); refine blk_put (cs := #[.int .i64 t412, .slice Ao26 t413.length co26, .slice Ao27 t416.length co27, .int .i64 0]) ?_ 3 _ rfl; (with_reducible repeat (first | refine blk_drewN ?_ _ | refine blk_drew ?_ | refine blk_alloc ?_ _)); refine blk_put (cs := #[.int .i64 t412, .slice Ao26 t413.length co26, .slice none 0 0, .int .i64 0]) ?_ 2 _ rfl; (with_reducible repeat (first | refine blk_drewN ?_ _ | refine blk_drew ?_ | refine blk_alloc ?_ _)); refine blk_put (cs := #[.int .i64 t412, .slice none 0 0, .slice none 0 0, .int .i64 0]) ?_ 1 _ rfl; (with_reducible repeat (first | refine blk_drewN ?_ _ | refine blk_drew ?_ | refine blk_alloc ?_ _)); refine blk_put (cs := #[.int .i64 0, .slice none 0 0, .slice none 0 0, .int .i64 0]) ?_ 0 _ rfl; (with_reducible repeat (first | refine blk_drewN ?_ _ | refine blk_drew ?_ | refine blk_alloc ?_ _)); exact BK421.out) hb; replace HB := sB zq87 hb; clear hb; (try clear ho0); (try clear ho1)) | ((with_reducible refine gate_dst (N := 8) rfl ?_); refine box_event ?hg (N := 8) ?hd (cs := #[.int .i64 0, .slice none 0 0, .slice none 0 0, .int .i64 0]) (t := 31) ?hr ?_; (case hd => rfl); (case hg => rfl); (case hr => exact zq2); intro gb430 hg w30 hbox hb; replace HO407 := rB zq83 hb; replace HO410 := rB zq84 hb; replace HO415 := rB zq85 hb; replace HO418 := rB zq86 hb; replace HO425 := rB zq92 hb; replace HO428 := rB zq93 hb; have BK430 := Aside0.mk hbox; have GW430 := Aside0.mk (by rw [hg]; exact (below_size zq87) : w.heap.size ≤ gb430); have GE430 := Aside0.mk (by rw [hg]; exact (below_size zq87) : w.heap.size ≤ gb430); replace HB := sB zq87 hb; have NB402_430 := Aside0.mk (zq279 : gb402 ≠ gb430); have NB430_402 := Aside0.mk (zq280 : gb430 ≠ gb402); replace BK402 := bF BK402 zq82 hb; have NB421_430 := Aside0.mk (zq281 : gb421 ≠ gb430); have NB430_421 := Aside0.mk (zq282 : gb430 ≠ gb421); replace BK421 := bF BK421 zq94 hb; clear hb hbox hg; have hnb31 := NB430_402.out; have hnc31 := NB402_430.out; have hnb32 := NB430_421.out; have hnc32 := NB421_430.out; obtain ⟨hcz33_0, hcz33_1, hcz33_2, hcz33_3, hfz33_0, hfz33_1, hfz33_2, hfz33_3⟩ := c4 (w := w30) BK430; obtain ⟨Ao34, co34, eo34⟩ := Kd.R_slice HO425.out; subst eo34; obtain ⟨Ao35, co35, eo35⟩ := Kd.R_slice HO428.out; subst eo35) | ((with_reducible refine gC 38 rfl ?_); refine gL 36 Try.func38 #[.agg #[.int .i64 t422, .slice Ao34 t423.length co34, .slice Ao35 t426.length co35, .int .i64 t429], .string a1] ?_; (with_reducible refine (impl_DropBlob.calls k t422 _ _ t423 _ _ t426 t429 a1 t431 t432 t435 t438 t439 _ ?side1 ?_ ?side3 ?_ A13.out).mono ?_); (case side1 => refine (Kd.R_reads' (e := 66) (base := w.heap.size) (ok := fun k_ => ((True ∧ some k_ ≠ (.slice Ao20 t405.length co20 : Value).ownBlock) ∧ some k_ ≠ (.slice Ao26 t413.length co26 : Value).ownBlock)) (n := t423.length) (c := co34) ?_).2.2; exact zq95); exact (Kd.R_reads' HO425.out).2.1; (case side3 => refine (Kd.R_reads' (e := 68) (base := w.heap.size) (ok := fun k_ => ((True ∧ some k_ ≠ (.slice Ao21 t408.length co21 : Value).ownBlock) ∧ some k_ ≠ (.slice Ao27 t416.length co27 : Value).ownBlock)) (n := t426.length) (c := co35) ?_).2.2; exact zq96); exact (Kd.R_reads' HO428.out).2.1; rintro e w36 ⟨v433, v436, rfl, ho0, ho1, hb⟩; refine ⟨_, rfl, ?_⟩; have HO434 := Aside0.mk (Kd.R_lower (Kd.R_new' (Kd.R_new' (Kd.R_new' ho0 (Kd.R_lt zq97)) (Kd.R_lt zq99)) (Kd.R_lt zq95)) (below_size zq101)); replace HO407 := Aside0.mk (Kd.R_elder' zq97 (Kd.R_base ho0) hb); replace HO415 := Aside0.mk (Kd.R_elder' zq99 (Kd.R_base ho0) hb); replace HO425 := Aside0.mk (Kd.R_elder' zq95 (Kd.R_base ho0) hb); have HO437 := Aside0.mk (Kd.R_lower (Kd.R_new' (Kd.R_new' (Kd.R_new' ho1 (Kd.R_lt zq98)) (Kd.R_lt zq100)) (Kd.R_lt zq96)) (below_size zq101)); replace HO410 := Aside0.mk (Kd.R_elder' zq98 (Kd.R_base ho1) hb); replace HO418 := Aside0.mk (Kd.R_elder' zq100 (Kd.R_base ho1) hb); replace HO428 := Aside0.mk (Kd.R_elder' zq96 (Kd.R_base ho1) hb); replace BK402 := bF BK402 (by (with_reducible repeat (first | refine blk_drewN ?_ _ | refine blk_drew ?_ | refine blk_alloc ?_ _)); refine blk_far ?_ NB402_430.out _; (with_reducible repeat (first | refine blk_drewN ?_ _ | refine blk_drew ?_ | refine blk_alloc ?_ _)); refine blk_far ?_ NB402_430.out _; (with_reducible repeat (first | refine blk_drewN ?_ _ | refine blk_drew ?_ | refine blk_alloc ?_ _)); refine blk_far ?_ NB402_430.out _; (with_reducible repeat (first | refine blk_drewN ?_ _ | refine blk_drew ?_ | refine blk_alloc ?_ _)); refine blk_far ?_ NB402_430.out _; (with_reducible repeat (first | refine blk_drewN ?_ _ | refine blk_drew ?_ | refine blk_alloc ?_ _)); exact BK402.out) hb; replace BK421 := bF BK421 (by (with_reducible repeat (first | refine blk_drewN ?_ _ | refine blk_drew ?_ | refine blk_alloc ?_ _)); refine blk_far ?_ NB421_430.out _; (with_reducible repeat (first | refine blk_drewN ?_ _ | refine blk_drew ?_ | refine blk_alloc ?_ _)); refine blk_far ?_ NB421_430.out _; (with_reducible repeat (first | refine blk_drewN ?_ _ | refine blk_drew ?_ | refine blk_alloc ?_ _)); refine blk_far ?_ NB421_430.out _; (with_reducible repeat (first | refine blk_drewN ?_ _ | refine blk_drew ?_ | refine blk_alloc ?_ _)); refine blk_far ?_ NB421_430.out _; (with_reducible repeat (first | refine blk_drewN ?_ _ | refine blk_drew ?_ | refine blk_alloc ?_ _)); exact BK421.out) hb; replace BK430 := bB (g := gb430) (o := .cells #[.int .i64 t422, .slice Ao34 t423.length co34, .slice Ao35 t426.length co35, .int .i64 t429] 31 (0, 0)) (by (with_reducible repeat (first | refine blk_drewN ?_ _ | refine blk_drew ?_ | refine blk_alloc ?_ _)); refine blk_put (cs := #[.int .i64 t422, .slice Ao34 t423.length co34, .slice Ao35 t426.length co35, .int .i64 0]) ?_ 3 _ rfl; (with_reducible repeat (first | refine blk_drewN ?_ _ | refine blk_drew ?_ | refine blk_alloc ?_ _)); refine blk_put (cs := #[.int .i64 t422, .slice Ao34 t423.length co34, .slice none 0 0, .int .i64 0]) ?_ 2 _ rfl; (with_reducible repeat (first | refine blk_drewN ?_ _ | refine blk_drew ?_ | refine blk_alloc ?_ _)); refine blk_put (cs := #[.int .i64 t422, .slice none 0 0, .slice none 0 0, .int .i64 0]) ?_ 1 _ rfl; (with_reducible repeat (first | refine blk_drewN ?_ _ | refine blk_drew ?_ | refine blk_alloc ?_ _)); refine blk_put (cs := #[.int .i64 0, .slice none 0 0, .slice none 0 0, .int .i64 0]) ?_ 0 _ rfl; (with_reducible repeat (first | refine blk_drewN ?_ _ | refine blk_drew ?_ | refine blk_alloc ?_ _)); exact BK430.out) hb; replace HB := sB zq101 hb; clear hb; (try clear ho0); (try clear ho1)) | ((with_reducible refine gate_dst (N := 9) rfl ?_); refine box_event ?hg (N := 9) ?hd (cs := #[.int .i64 0, .slice none 0 0, .slice none 0 0, .int .i64 0]) (t := 31) ?hr ?_; (case hd => rfl); (case hg => rfl); (case hr => exact zq2); intro gb440 hg w37 hbox hb; replace HO407 := rB zq83 hb; replace HO410 := rB zq84 hb; replace HO415 := rB zq85 hb; replace HO418 := rB zq86 hb; replace HO425 := rB zq92 hb; replace HO428 := rB zq93 hb; replace HO434 := rB (by (with_reducible repeat (first | apply Kd.R_alloc | apply Kd.R_drewN | apply Kd.R_drew)); exact HO434.out) hb; replace HO437 := rB (by (with_reducible repeat (first | apply Kd.R_alloc | apply Kd.R_drewN | apply Kd.R_drew)); exact HO437.out) hb; have BK440 := Aside0.mk hbox; have GW440 := Aside0.mk (by rw [hg]; exact (below_size zq101) : w.heap.size ≤ gb440); have GE440 := Aside0.mk (by rw [hg]; exact (below_size zq101) : w.heap.size ≤ gb440); replace HB := sB zq101 hb; have NB402_440 := Aside0.mk (zq279 : gb402 ≠ gb440); have NB440_402 := Aside0.mk (zq280 : gb440 ≠ gb402); replace BK402 := bF BK402 zq82 hb; have NB421_440 := Aside0.mk (zq281 : gb421 ≠ gb440); have NB440_421 := Aside0.mk (zq282 : gb440 ≠ gb421); replace BK421 := bF BK421 zq94 hb; have NB430_440 := Aside0.mk (by rw [hg]; exact Nat.ne_of_lt (blk_lt (g := gb430) (o := .cells #[.int .i64 t422, .slice Ao34 t423.length co34, .slice Ao35 t426.length co35, .int .i64 t429] 31 (0, 0)) zq102) : gb430 ≠ gb440); have NB440_430 := Aside0.mk (by rw [hg]; exact Nat.ne_of_gt (blk_lt (g := gb430) (o := .cells #[.int .i64 t422, .slice Ao34 t423.length co34, .slice Ao35 t426.length co35, .int .i64 t429] 31 (0, 0)) zq102) : gb440 ≠ gb430); replace BK430 := bF BK430 zq102 hb; clear hb hbox hg; have hnb38 := NB440_402.out; have hnc38 := NB402_440.out; have hnb39 := NB440_421.out; have hnc39 := NB421_440.out; have hnb40 := NB440_430.out; have hnc40 := NB430_440.out; obtain ⟨hcz41_0, hcz41_1, hcz41_2, hcz41_3, hfz41_0, hfz41_1, hfz41_2, hfz41_3⟩ := c4 (w := w37) BK440; obtain ⟨Ao42, co42, eo42⟩ := Kd.R_slice HO434.out; subst eo42; obtain ⟨Ao43, co43, eo43⟩ := Kd.R_slice HO437.out; subst eo43))
 (try simp only [Act.put, List.setIfInBounds_toArray, List.set_cons_zero, List.set_cons_succ])
 go_cut [47] (fun v47 wc => ∃ (kq : Nat) (x47_13 : Bool), v47 = .bool x47_13 ∧ Aside0 (laws_FnExactDropBlob.j0 kq a1 t420 t439 x47_13 a0_0 l0_1 l0_2 a0_3 t412 t413 t416 t419 t422 t423 t426 t429 t431 t432 t435 t438 = some r) ∧ Aside0 (kq ≤ k) ∧ Aside0 (Kd.R k66 66 wc w.heap.size (fun k_ => some k_ ≠ ((.slice Ao34 t423.length co34) : Value).ownBlock ∧ some k_ ≠ ((.slice Ao42 t432.length co42) : Value).ownBlock) (.slice Ao26 t413.length co26) t413) ∧ Aside0 (Kd.R k68 68 wc w.heap.size (fun k_ => some k_ ≠ ((.slice Ao35 t426.length co35) : Value).ownBlock ∧ some k_ ≠ ((.slice Ao43 t435.length co43) : Value).ownBlock) (.slice Ao27 t416.length co27) t416) ∧ Aside0 (Kd.R k66 66 wc w.heap.size (fun k_ => some k_ ≠ ((.slice Ao26 t413.length co26) : Value).ownBlock ∧ some k_ ≠ ((.slice Ao42 t432.length co42) : Value).ownBlock) (.slice Ao34 t423.length co34) t423) ∧ Aside0 (Kd.R k68 68 wc w.heap.size (fun k_ => some k_ ≠ ((.slice Ao27 t416.length co27) : Value).ownBlock ∧ some k_ ≠ ((.slice Ao43 t435.length co43) : Value).ownBlock) (.slice Ao35 t426.length co35) t426) ∧ Aside0 (Kd.R k66 66 wc w.heap.size (fun k_ => some k_ ≠ ((.slice Ao26 t413.length co26) : Value).ownBlock ∧ some k_ ≠ ((.slice Ao34 t423.length co34) : Value).ownBlock) (.slice Ao42 t432.length co42) t432) ∧ Aside0 (Kd.R k68 68 wc w.heap.size (fun k_ => some k_ ≠ ((.slice Ao27 t416.length co27) : Value).ownBlock ∧ some k_ ≠ ((.slice Ao35 t426.length co35) : Value).ownBlock) (.slice Ao43 t435.length co43) t435) ∧ Aside0 (wc.heap[gb402]? = some (.cells #[.int .i64 a0_0, (.slice A0_1 l0_1.length c0_1), (.slice A0_2 l0_2.length c0_2), .int .i64 a0_3] 25 (0, 0))) ∧ Aside0 (wc.heap[gb421]? = some (.cells #[.int .i64 t412, (.slice Ao26 t413.length co26), (.slice Ao27 t416.length co27), .int .i64 t419] 31 (0, 0))) ∧ Aside0 (wc.heap[gb430]? = some (.cells #[.int .i64 t422, (.slice Ao34 t423.length co34), (.slice Ao35 t426.length co35), .int .i64 t429] 31 (0, 0))) ∧ Aside0 (wc.heap[gb440]? = some (.cells #[.int .i64 t431, (.slice Ao42 t432.length co42), (.slice Ao43 t435.length co43), .int .i64 t438] 31 (0, 0))) ∧ Aside0 (Below w.heap.size w wc))
 case first =>
  have H := HC14.out
  clear HC14
  replace H := Option.bind_eq_some_iff.mp H
  obtain ⟨t441, A440, H⟩ := H
  try dsimp only at H
  have A44 := Aside0.mk A440
  clear A440
  by_cases c45 : t441 = true
  ·
   subst c45
   have H1 : (laws_FnExactDropBlob.j0 k a1 t420 t439 (t439 != t420) a0_0 l0_1 l0_2 a0_3 t412 t413 t416 t419 t422 t423 t426 t429 t431 t432 t435 t438) = some r := by rw [if_pos rfl] at H; exact H
   clear H
   have H := H1
   clear H1
   have H' := Aside0.mk H
   clear H
   have hnb46 := NB440_402.out
   have hnc46 := NB402_440.out
   have hnb47 := NB440_421.out
   have hnc47 := NB421_440.out
   have hnb48 := NB440_430.out
   have hnc48 := NB430_440.out
   obtain ⟨hcz49_0, hcz49_1, hcz49_2, hcz49_3, hfz49_0, hfz49_1, hfz49_2, hfz49_3⟩ := c4 (w := w37) BK440
   have hnb50 := NB421_402.out
   have hnc50 := NB402_421.out
   have hnb51 := NB421_430.out
   have hnc51 := NB430_421.out
   obtain ⟨hcz52_0, hcz52_1, hcz52_2, hcz52_3, hfz52_0, hfz52_1, hfz52_2, hfz52_3⟩ := c4 (w := w37) BK421
   go_wp2_with (first | ((with_reducible refine gC 19 rfl ?_); refine gL 41 Try.func19 #[.agg #[.int .i64 t431, .slice Ao42 t432.length co42, .slice Ao43 t435.length co43, .int .i64 t438], .agg #[.int .i64 t412, .slice Ao26 t413.length co26, .slice Ao27 t416.length co27, .int .i64 t419]] ?_; (with_reducible refine (laws_eqStore.calls k t431 _ _ t432 _ _ t435 t438 t412 _ _ t413 _ _ t416 t419 true _ ?_ ?_ ?_ ?_ ?_ ?_ ?_ ?_ A44.out).mono ?_); exact zq283; exact (Kd.R_reads' HO434.out).2.1; exact zq284; exact (Kd.R_reads' HO437.out).2.1; exact zq285; exact (Kd.R_reads' HO415.out).2.1; exact zq286; exact (Kd.R_reads' HO418.out).2.1; rintro e w53 ⟨rfl, hb⟩; refine ⟨_, rfl, ?_⟩; replace HO407 := rB zq107 hb; replace HO410 := rB zq108 hb; replace HO415 := rB zq105 hb; replace HO418 := rB zq106 hb; replace HO425 := rB zq109 hb; replace HO428 := rB zq110 hb; replace HO434 := rB zq103 hb; replace HO437 := rB zq104 hb; replace BK402 := bF BK402 zq111 hb; replace BK421 := bF BK421 zq112 hb; replace BK430 := bF BK430 zq113 hb; replace BK440 := bB (g := gb440) (o := .cells #[.int .i64 t431, .slice Ao42 t432.length co42, .slice Ao43 t435.length co43, .int .i64 t438] 31 (0, 0)) zq114 hb; replace HB := sB zq115 hb; clear hb))
   go_meet
   case rel => exact ⟨_, ((t439 != t420)), zq6, H', ⟨zq51⟩, ⟨zq116⟩, ⟨zq117⟩, ⟨zq118⟩, ⟨zq119⟩, ⟨zq120⟩, ⟨zq121⟩, ⟨zq82⟩, ⟨zq94⟩, ⟨zq102⟩, ⟨zq122⟩, ⟨zq115⟩⟩
  replace c45 := Bool.eq_false_iff.mpr c45
  subst c45
  have H1 : (laws_FnExactDropBlob.j0 k a1 t420 t439 true a0_0 l0_1 l0_2 a0_3 t412 t413 t416 t419 t422 t423 t426 t429 t431 t432 t435 t438) = some r := by rw [if_neg (show ¬ (false = true) by decide)] at H; exact H
  clear H
  have H := H1
  clear H1
  have H' := Aside0.mk H
  clear H
  have hnb54 := NB440_402.out
  have hnc54 := NB402_440.out
  have hnb55 := NB440_421.out
  have hnc55 := NB421_440.out
  have hnb56 := NB440_430.out
  have hnc56 := NB430_440.out
  obtain ⟨hcz57_0, hcz57_1, hcz57_2, hcz57_3, hfz57_0, hfz57_1, hfz57_2, hfz57_3⟩ := c4 (w := w37) BK440
  have hnb58 := NB421_402.out
  have hnc58 := NB402_421.out
  have hnb59 := NB421_430.out
  have hnc59 := NB430_421.out
  obtain ⟨hcz60_0, hcz60_1, hcz60_2, hcz60_3, hfz60_0, hfz60_1, hfz60_2, hfz60_3⟩ := c4 (w := w37) BK421
  go_wp2_with (first | ((with_reducible refine gC 19 rfl ?_); refine gL 41 Try.func19 #[.agg #[.int .i64 t431, .slice Ao42 t432.length co42, .slice Ao43 t435.length co43, .int .i64 t438], .agg #[.int .i64 t412, .slice Ao26 t413.length co26, .slice Ao27 t416.length co27, .int .i64 t419]] ?_; (with_reducible refine (laws_eqStore.calls k t431 _ _ t432 _ _ t435 t438 t412 _ _ t413 _ _ t416 t419 false _ ?_ ?_ ?_ ?_ ?_ ?_ ?_ ?_ A44.out).mono ?_); exact zq283; exact (Kd.R_reads' HO434.out).2.1; exact zq284; exact (Kd.R_reads' HO437.out).2.1; exact zq285; exact (Kd.R_reads' HO415.out).2.1; exact zq286; exact (Kd.R_reads' HO418.out).2.1; rintro e w61 ⟨rfl, hb⟩; refine ⟨_, rfl, ?_⟩; replace HO407 := rB zq107 hb; replace HO410 := rB zq108 hb; replace HO415 := rB zq105 hb; replace HO418 := rB zq106 hb; replace HO425 := rB zq109 hb; replace HO428 := rB zq110 hb; replace HO434 := rB zq103 hb; replace HO437 := rB zq104 hb; replace BK402 := bF BK402 zq111 hb; replace BK421 := bF BK421 zq112 hb; replace BK430 := bF BK430 zq113 hb; replace BK440 := bB (g := gb440) (o := .cells #[.int .i64 t431, .slice Ao42 t432.length co42, .slice Ao43 t435.length co43, .int .i64 t438] 31 (0, 0)) zq114 hb; replace HB := sB zq115 hb; clear hb))
  go_meet
  case rel => exact ⟨_, (true), zq6, H', ⟨zq51⟩, ⟨zq116⟩, ⟨zq117⟩, ⟨zq118⟩, ⟨zq119⟩, ⟨zq120⟩, ⟨zq121⟩, ⟨zq82⟩, ⟨zq94⟩, ⟨zq102⟩, ⟨zq122⟩, ⟨zq115⟩⟩
 case rest =>
  clear HC14
  try clear c1
  try clear c2
  try clear p2
  try clear c3
  try clear c3b0
  try clear c3b1
  try clear c4
  try clear c5
  try clear c6
  try clear c6b0
  try clear c10
  try clear c15
  try clear c17
  try clear c19
  try clear c24
  try clear c31
  try clear c32
  try clear c37
  try clear c38
  try clear c39
  try clear c40
  try clear c45
  try clear c46
  try clear c47
  try clear c48
  try clear c50
  try clear c51
  try clear c54
  try clear c55
  try clear c56
  try clear c58
  try clear c59
  try clear hcz16_0
  try clear hcz16_1
  try clear hcz16_2
  try clear hcz16_3
  try clear hcz18_0
  try clear hcz18_1
  try clear hcz18_2
  try clear hcz18_3
  try clear hcz25_0
  try clear hcz25_1
  try clear hcz25_2
  try clear hcz25_3
  try clear hcz28_0
  try clear hcz28_1
  try clear hcz28_2
  try clear hcz28_3
  try clear hcz33_0
  try clear hcz33_1
  try clear hcz33_2
  try clear hcz33_3
  try clear hcz41_0
  try clear hcz41_1
  try clear hcz41_2
  try clear hcz41_3
  try clear hcz49_0
  try clear hcz49_1
  try clear hcz49_2
  try clear hcz49_3
  try clear hcz52_0
  try clear hcz52_1
  try clear hcz52_2
  try clear hcz52_3
  try clear hcz57_0
  try clear hcz57_1
  try clear hcz57_2
  try clear hcz57_3
  try clear hcz60_0
  try clear hcz60_1
  try clear hcz60_2
  try clear hcz60_3
  try clear hcz8_0
  try clear hcz8_1
  try clear hcz8_2
  try clear hcz8_3
  try clear hfz16_0
  try clear hfz16_1
  try clear hfz16_2
  try clear hfz16_3
  try clear hfz18_0
  try clear hfz18_1
  try clear hfz18_2
  try clear hfz18_3
  try clear hfz25_0
  try clear hfz25_1
  try clear hfz25_2
  try clear hfz25_3
  try clear hfz28_0
  try clear hfz28_1
  try clear hfz28_2
  try clear hfz28_3
  try clear hfz33_0
  try clear hfz33_1
  try clear hfz33_2
  try clear hfz33_3
  try clear hfz41_0
  try clear hfz41_1
  try clear hfz41_2
  try clear hfz41_3
  try clear hfz49_0
  try clear hfz49_1
  try clear hfz49_2
  try clear hfz49_3
  try clear hfz52_0
  try clear hfz52_1
  try clear hfz52_2
  try clear hfz52_3
  try clear hfz57_0
  try clear hfz57_1
  try clear hfz57_2
  try clear hfz57_3
  try clear hfz60_0
  try clear hfz60_1
  try clear hfz60_2
  try clear hfz60_3
  try clear hfz8_0
  try clear hfz8_1
  try clear hfz8_2
  try clear hfz8_3
  obtain ⟨kq, x47_13, rfl, HA, HJ13, HO_422001, HO_422002, HO_431001, HO_431002, HO_441001, HO_441002, BK402, BK421, BK430, BK440, HB⟩ := hcut
  cases kq with
  | zero => exact absurd HA.out (by simp [laws_FnExactDropBlob.j0])
  | succ kj13 =>
   have H := HA.out
   clear HA
   simp only [laws_FnExactDropBlob.j0] at H
   by_cases c62 : x47_13 = true
   ·
    subst c62
    have H1 : (some false) = some r := by rw [if_pos rfl] at H; exact H
    clear H
    have H := H1
    clear H1
    obtain rfl := Option.some.inj H
    go_wp2
    go_ret
    exact ⟨zq4, zq115⟩
   replace c62 := Bool.eq_false_iff.mpr c62
   subst c62
   have H1 : ((laws_toStore.f kj13 a0_0 l0_1 l0_2 a0_3).bind fun bt442 => ((laws_eqStore.f kj13 t422 t423 t426 t429 bt442.1 bt442.2.1 bt442.2.2.1 bt442.2.2.2).bind fun t450 => (if t450 = true then ((laws_markStore.f kj13 t422 t423 t426 t429 1).bind fun bt451 => (if bt451.1 < 0 then (laws_FnExactDropBlob.j1 kj13 a1 t420 true a0_0 l0_1 l0_2 a0_3 t412 t413 t416 t419 t431 t432 t435 t438) else ((laws_eqStore.f kj13 t431 t432 t435 t438 t412 t413 t416 t419).bind fun t454 => (if t454 = true then (laws_FnExactDropBlob.j1 kj13 a1 t420 (t439 != t420) a0_0 l0_1 l0_2 a0_3 t412 t413 t416 t419 t431 t432 t435 t438) else (laws_FnExactDropBlob.j1 kj13 a1 t420 true a0_0 l0_1 l0_2 a0_3 t412 t413 t416 t419 t431 t432 t435 t438))))) else (some false)))) = some r := by rw [if_neg (show ¬ (false = true) by decide)] at H; exact H
   clear H
   have H := H1
   clear H1
   replace H := Option.bind_eq_some_iff.mp H
   obtain ⟨⟨t442, t443, t446, t449⟩, A630, H⟩ := H
   try dsimp only at H
   have A63 := Aside0.mk A630
   clear A630
   replace H := Option.bind_eq_some_iff.mp H
   obtain ⟨t450, A640, H⟩ := H
   try dsimp only at H
   have A64 := Aside0.mk A640
   clear A640
   by_cases c65 : t450 = true
   ·
    subst c65
    have H1 : ((laws_markStore.f kj13 t422 t423 t426 t429 1).bind fun bt451 => (if bt451.1 < 0 then (laws_FnExactDropBlob.j1 kj13 a1 t420 true a0_0 l0_1 l0_2 a0_3 t412 t413 t416 t419 t431 t432 t435 t438) else ((laws_eqStore.f kj13 t431 t432 t435 t438 t412 t413 t416 t419).bind fun t454 => (if t454 = true then (laws_FnExactDropBlob.j1 kj13 a1 t420 (t439 != t420) a0_0 l0_1 l0_2 a0_3 t412 t413 t416 t419 t431 t432 t435 t438) else (laws_FnExactDropBlob.j1 kj13 a1 t420 true a0_0 l0_1 l0_2 a0_3 t412 t413 t416 t419 t431 t432 t435 t438))))) = some r := by rw [if_pos rfl] at H; exact H
    clear H
    have H := H1
    clear H1
    replace H := Option.bind_eq_some_iff.mp H
    obtain ⟨⟨t451, t452, t453⟩, A660, H⟩ := H
    try dsimp only at H
    have A66 := Aside0.mk A660
    clear A660
    have HC67 := Aside0.mk H
    clear H
    try go_wp2
    replace HO_422001 := Aside0.mk (Kd.R_drew HO_422001.out)
    replace HO_422002 := Aside0.mk (Kd.R_drew HO_422002.out)
    replace HO_431001 := Aside0.mk (Kd.R_drew HO_431001.out)
    replace HO_431002 := Aside0.mk (Kd.R_drew HO_431002.out)
    replace HO_441001 := Aside0.mk (Kd.R_drew HO_441001.out)
    replace HO_441002 := Aside0.mk (Kd.R_drew HO_441002.out)
    replace BK402 := Aside0.mk (blk_drew BK402.out)
    replace BK421 := Aside0.mk (blk_drew BK421.out)
    replace BK430 := Aside0.mk (blk_drew BK430.out)
    replace BK440 := Aside0.mk (blk_drew BK440.out)
    replace HB := Aside0.mk (below_drew1 HB.out)
    refine start_ (n := 5) (S := fun w' => w'.cell? ⟨gb430, 0, none⟩ = some (.int .i64 t422) ∧ w'.cell? ⟨gb430, 1, none⟩ = some (.slice Ao34 t423.length co34) ∧ w'.cell? ⟨gb430, 2, none⟩ = some (.slice Ao35 t426.length co35) ∧ w'.cell? ⟨gb430, 3, none⟩ = some (.int .i64 t429) ∧ w'.cell? ⟨gb402, 0, none⟩ = some (.int .i64 a0_0) ∧ w'.cell? ⟨gb402, 1, none⟩ = some (.slice A0_1 l0_1.length c0_1) ∧ w'.cell? ⟨gb402, 2, none⟩ = some (.slice A0_2 l0_2.length c0_2) ∧ w'.cell? ⟨gb402, 3, none⟩ = some (.int .i64 a0_3)) (ds := []) #[false, false, false, false, false] (by kernel_rfl) rfl rfl ⟨(blk_cell BK430.out 0).trans rfl, (blk_cell BK430.out 1).trans rfl, (blk_cell BK430.out 2).trans rfl, (blk_cell BK430.out 3).trans rfl, (blk_cell BK402.out 0).trans rfl, (blk_cell BK402.out 1).trans rfl, (blk_cell BK402.out 2).trans rfl, (blk_cell BK402.out 3).trans rfl⟩ (fun hHeld => ?_)
    generalize wc.drew = w68 at HO_422001 HO_422002 HO_431001 HO_431002 HO_441001 HO_441002 BK402 BK421 BK430 BK440 HB hHeld ⊢
    refine take_ (i := 0) (N := some 48) (v := ?_) (a' := ?_) #[true, false, false, false, false] rfl rfl (by kernel_rfl) (fun _ _ _ h => h) (Or.inl ⟨by rfl, ?_⟩) hHeld ?_ ?_
    rotate_left
    exact zq324
    rotate_left
    exact zq315
    refine take_ (i := 1) (N := some 49) (v := ?_) (a' := ?_) #[true, true, false, false, false] rfl rfl (by kernel_rfl) (fun _ _ _ h => h) (Or.inl ⟨by rfl, ?_⟩) hHeld ?_ ?_
    rotate_left
    exact zq324
    rotate_left
    exact zq315
    refine one_ (i := 2) (N := some 50) #[true, true, true, false, false] rfl rfl (by kernel_rfl) (by decide) (fun K hK => ?_)
    refine goes_ Try.func17 (by kernel_rfl) rfl #[.agg #[.int .i64 a0_0, .slice A0_1 l0_1.length c0_1, .slice A0_2 l0_2.length c0_2, .int .i64 a0_3]] (by rfl) rfl rfl zq8 ?_
    with_reducible refine (laws_toStore.calls kj13 a0_0 _ _ l0_1 _ _ l0_2 a0_3 t442 t443 t446 t449 _ ?side1 ?side2 ?side3 ?side4 A63.out).mono ?_
    (case side1 => exact zq11)
    (case side2 => exact zq12)
    (case side3 => exact zq15)
    (case side4 => exact zq16)
    rintro e w69 ⟨v444, v447, rfl, ho0, ho1, hb⟩
    refine ⟨_, rfl, ?_⟩
    have HO445 := Aside0.mk (Kd.R_lower (Kd.R_new' (Kd.R_new' (Kd.R_new' ho0 (Kd.R_lt zq123)) (Kd.R_lt zq125)) (Kd.R_lt zq127)) (below_size zq115))
    replace HO_422001 := Aside0.mk (Kd.R_elder' zq123 (Kd.R_base ho0) hb)
    replace HO_431001 := Aside0.mk (Kd.R_elder' zq125 (Kd.R_base ho0) hb)
    replace HO_441001 := Aside0.mk (Kd.R_elder' zq127 (Kd.R_base ho0) hb)
    have HO448 := Aside0.mk (Kd.R_lower (Kd.R_new' (Kd.R_new' (Kd.R_new' ho1 (Kd.R_lt zq124)) (Kd.R_lt zq126)) (Kd.R_lt zq128)) (below_size zq115))
    replace HO_422002 := Aside0.mk (Kd.R_elder' zq124 (Kd.R_base ho1) hb)
    replace HO_431002 := Aside0.mk (Kd.R_elder' zq126 (Kd.R_base ho1) hb)
    replace HO_441002 := Aside0.mk (Kd.R_elder' zq128 (Kd.R_base ho1) hb)
    replace BK402 := bF BK402 zq82 hb
    replace BK421 := bF BK421 zq94 hb
    replace BK430 := bF BK430 zq102 hb
    replace BK440 := bF BK440 zq122 hb
    replace HB := sB zq115 hb
    (try clear hb)
    (try clear hb2)
    (try clear hk)
    (try clear hi)
    (try clear ho0)
    (try clear ho1)
    obtain ⟨Ao70, co70, eo70⟩ := Kd.R_slice HO445.out
    (first | subst eo70 | (injection eo70 with f1_ f2_ f3_; have f4_ := f1_.symm; have f5_ := f3_.symm; clear f1_ f2_ f3_; subst f4_; subst f5_))
    obtain ⟨Ao71, co71, eo71⟩ := Kd.R_slice HO448.out
    (first | subst eo71 | (injection eo71 with f1_ f2_ f3_; have f4_ := f1_.symm; have f5_ := f3_.symm; clear f1_ f2_ f3_; subst f4_; subst f5_))
    refine hK.out _ _ ⟨(blk_cell BK430.out 0).trans rfl, (blk_cell BK430.out 1).trans rfl, (blk_cell BK430.out 2).trans rfl, (blk_cell BK430.out 3).trans rfl, (blk_cell BK402.out 0).trans rfl, (blk_cell BK402.out 1).trans rfl, (blk_cell BK402.out 2).trans rfl, (blk_cell BK402.out 3).trans rfl⟩ (fun hHeld => ?_)
    clear hK K
    refine norm_ (a' := ?_) ?_ ?_
    rotate_left
    ·
     show Act.put _ (some 50) _ = _
     simp only [Act.put, List.setIfInBounds_toArray, List.set_cons_zero, List.set_cons_succ, i64_w, i32_w]
     rfl
    refine one_ (i := 3) (N := some 51) #[true, true, true, true, false] rfl rfl (by kernel_rfl) (by decide) (fun K hK => ?_)
    refine goes_ Try.func19 (by kernel_rfl) rfl #[.agg #[.int .i64 t422, .slice Ao34 t423.length co34, .slice Ao35 t426.length co35, .int .i64 t429], .agg #[.int .i64 t442, .slice Ao70 t443.length co70, .slice Ao71 t446.length co71, .int .i64 t449]] (by rfl) rfl rfl zq8 ?_
    with_reducible refine (laws_eqStore.calls kj13 t422 _ _ t423 _ _ t426 t429 t442 _ _ t443 _ _ t446 t449 true _ ?side1 ?side2 ?side3 ?side4 ?side5 ?side6 ?side7 ?side8 A64.out).mono ?_
    (case side1 => exact zq129)
    (case side2 => exact (Kd.R_reads' HO_431001.out).2.1)
    (case side3 => exact zq130)
    (case side4 => exact (Kd.R_reads' HO_431002.out).2.1)
    (case side5 => exact zq131)
    (case side6 => exact (Kd.R_reads' HO445.out).2.1)
    (case side7 => exact zq132)
    (case side8 => exact (Kd.R_reads' HO448.out).2.1)
    rintro e w72 ⟨rfl, hb⟩
    refine ⟨_, rfl, ?_⟩
    replace HO_422001 := rB zq123 hb
    replace HO_422002 := rB zq124 hb
    replace HO_431001 := rB zq125 hb
    replace HO_431002 := rB zq126 hb
    replace HO_441001 := rB zq127 hb
    replace HO_441002 := rB zq128 hb
    replace HO445 := rB zq133 hb
    replace HO448 := rB zq134 hb
    replace BK402 := bF BK402 zq82 hb
    replace BK421 := bF BK421 zq94 hb
    replace BK430 := bF BK430 zq102 hb
    replace BK440 := bF BK440 zq122 hb
    replace HB := sB zq115 hb
    (try clear hb)
    (try clear hb2)
    (try clear hk)
    (try clear hi)
    refine hK.out _ _ ⟨(blk_cell BK430.out 0).trans rfl, (blk_cell BK430.out 1).trans rfl, (blk_cell BK430.out 2).trans rfl, (blk_cell BK430.out 3).trans rfl, (blk_cell BK402.out 0).trans rfl, (blk_cell BK402.out 1).trans rfl, (blk_cell BK402.out 2).trans rfl, (blk_cell BK402.out 3).trans rfl⟩ (fun hHeld => ?_)
    clear hK K
    refine norm_ (a' := ?_) ?_ ?_
    rotate_left
    exact zq328
    refine pure_ (i := 4) (N := some 52) (v := ?_) (a' := ?_) #[true, true, true, true, true] rfl rfl (by kernel_rfl) (fun _ _ _ h => h) (Or.inl ⟨by rfl, ?_⟩) ?_ ?_
    rotate_left
    exact zq314
    rotate_left
    exact zq315
    refine done_ (by kernel_rfl) ?_
    have hnb73 := NB430_402.out
    have hnc73 := NB402_430.out
    have hnb74 := NB430_421.out
    have hnc74 := NB421_430.out
    have hnb75 := NB430_440.out
    have hnc75 := NB440_430.out
    obtain ⟨hcz76_0, hcz76_1, hcz76_2, hcz76_3, hfz76_0, hfz76_1, hfz76_2, hfz76_3⟩ := c4 (w := w72) BK430
    go_upto_region 16 with (first | ((with_reducible refine gC 27 rfl ?_); refine gL 55 Try.func27 #[.agg #[.int .i64 t422, .slice Ao34 t423.length co34, .slice Ao35 t426.length co35, .int .i64 t429], .int .i64 1] ?_; (with_reducible refine (laws_markStore.calls kj13 t422 (fun k_ => some k_ = (.slice Ao34 t423.length co34 : Value).ownBlock) (.slice Ao34 t423.length co34) t423 (fun k_ => some k_ = (.slice Ao35 t426.length co35 : Value).ownBlock) (.slice Ao35 t426.length co35) t426 t429 1 t451 t452 t453 w _ ?_ ?_ ?_ A66.out).mono ?_); exact zq115; exact Kd.R_tight rfl HO_431001.out; exact Kd.R_tight rfl HO_431002.out; rintro e w77 ⟨rfl, hy0, hy1, hb, hkp⟩; refine ⟨_, rfl, ?_⟩; replace HO_422001 := Aside0.mk (Kd.R_mono (ok' := fun k_ => some k_ ≠ (.slice Ao34 t423.length co34 : Value).ownBlock ∧ some k_ ≠ (.slice Ao42 t432.length co42 : Value).ownBlock ∧ some k_ ≠ (.slice Ao70 t443.length co70 : Value).ownBlock) (Kd.R_keptB ((Kd.R_apart' HO_422001.out (Kd.R_typed HO_431002.out) (by decide))) hkp (fun k_ hk_ hs_ => Or.elim hs_ (fun e_ => by first | exact hk_.1.1.1 e_ | exact hk_.1.1 e_ | exact hk_.1.2 e_ | exact hk_.1.1.2 e_ | exact hk_.1.2.1 e_ | exact hk_.1.2.2 e_ | exact hk_.2 e_ | simp_all) (fun e_ => by first | exact hk_.2 e_ | exact hk_.1.1 e_ | exact hk_.1.2 e_ | exact hk_.1.1.1 e_ | exact hk_.1.1.2 e_ | exact hk_.1.2.1 e_ | exact hk_.1.2.2 e_ | simp_all))) (fun k_ hk_ => by first | exact ⟨hk_.1.1.1.1, hk_.1.1.1.2, hk_.1.1.2⟩ | simp_all)); replace HO_422002 := Aside0.mk (Kd.R_mono (ok' := fun k_ => some k_ ≠ (.slice Ao35 t426.length co35 : Value).ownBlock ∧ some k_ ≠ (.slice Ao43 t435.length co43 : Value).ownBlock ∧ some k_ ≠ (.slice Ao71 t446.length co71 : Value).ownBlock) (Kd.R_keptB ((Kd.R_apart' HO_422002.out (Kd.R_typed HO_431001.out) (by decide))) hkp (fun k_ hk_ hs_ => Or.elim hs_ (fun e_ => by first | exact hk_.2 e_ | exact hk_.1.1 e_ | exact hk_.1.2 e_ | exact hk_.1.1.1 e_ | exact hk_.1.1.2 e_ | exact hk_.1.2.1 e_ | exact hk_.1.2.2 e_ | simp_all) (fun e_ => by first | exact hk_.1.1.1 e_ | exact hk_.1.1 e_ | exact hk_.1.2 e_ | exact hk_.1.1.2 e_ | exact hk_.1.2.1 e_ | exact hk_.1.2.2 e_ | exact hk_.2 e_ | simp_all))) (fun k_ hk_ => by first | exact ⟨hk_.1.1.1.1, hk_.1.1.1.2, hk_.1.1.2⟩ | simp_all)); replace HO_441001 := Aside0.mk (Kd.R_mono (ok' := fun k_ => some k_ ≠ (.slice Ao26 t413.length co26 : Value).ownBlock ∧ some k_ ≠ (.slice Ao34 t423.length co34 : Value).ownBlock ∧ some k_ ≠ (.slice Ao70 t443.length co70 : Value).ownBlock) (Kd.R_keptB ((Kd.R_apart' HO_441001.out (Kd.R_typed HO_431002.out) (by decide))) hkp (fun k_ hk_ hs_ => Or.elim hs_ (fun e_ => by first | exact hk_.1.1.2 e_ | exact hk_.1.1 e_ | exact hk_.1.2 e_ | exact hk_.1.1.1 e_ | exact hk_.1.2.1 e_ | exact hk_.1.2.2 e_ | exact hk_.2 e_ | simp_all) (fun e_ => by first | exact hk_.2 e_ | exact hk_.1.1 e_ | exact hk_.1.2 e_ | exact hk_.1.1.1 e_ | exact hk_.1.1.2 e_ | exact hk_.1.2.1 e_ | exact hk_.1.2.2 e_ | simp_all))) (fun k_ hk_ => by first | exact ⟨hk_.1.1.1.1, hk_.1.1.1.2, hk_.1.1.2⟩ | simp_all)); replace HO_441002 := Aside0.mk (Kd.R_mono (ok' := fun k_ => some k_ ≠ (.slice Ao27 t416.length co27 : Value).ownBlock ∧ some k_ ≠ (.slice Ao35 t426.length co35 : Value).ownBlock ∧ some k_ ≠ (.slice Ao71 t446.length co71 : Value).ownBlock) (Kd.R_keptB ((Kd.R_apart' HO_441002.out (Kd.R_typed HO_431001.out) (by decide))) hkp (fun k_ hk_ hs_ => Or.elim hs_ (fun e_ => by first | exact hk_.2 e_ | exact hk_.1.1 e_ | exact hk_.1.2 e_ | exact hk_.1.1.1 e_ | exact hk_.1.1.2 e_ | exact hk_.1.2.1 e_ | exact hk_.1.2.2 e_ | simp_all) (fun e_ => by first | exact hk_.1.1.2 e_ | exact hk_.1.1 e_ | exact hk_.1.2 e_ | exact hk_.1.1.1 e_ | exact hk_.1.2.1 e_ | exact hk_.1.2.2 e_ | exact hk_.2 e_ | simp_all))) (fun k_ hk_ => by first | exact ⟨hk_.1.1.1.1, hk_.1.1.1.2, hk_.1.1.2⟩ | simp_all)); replace BK402 := Aside0.mk (blk_kept zq135 hkp (fun hs_ => Or.elim hs_ (fun e_ => (fun e_ => (Kd.R_ne HO_431001.out BK402.out (by decide)) e_) e_) (fun e_ => (fun e_ => (Kd.R_ne HO_431002.out BK402.out (by decide)) e_) e_))); replace BK421 := Aside0.mk (blk_kept zq136 hkp (fun hs_ => Or.elim hs_ (fun e_ => (fun e_ => (Kd.R_ne HO_431001.out BK421.out (by decide)) e_) e_) (fun e_ => (fun e_ => (Kd.R_ne HO_431002.out BK421.out (by decide)) e_) e_))); replace BK430 := Aside0.mk (blk_kept zq137 hkp (fun hs_ => Or.elim hs_ (fun e_ => (fun e_ => (Kd.R_ne HO_431001.out BK430.out (by decide)) e_) e_) (fun e_ => (fun e_ => (Kd.R_ne HO_431002.out BK430.out (by decide)) e_) e_))); replace BK440 := Aside0.mk (blk_kept zq138 hkp (fun hs_ => Or.elim hs_ (fun e_ => (fun e_ => (Kd.R_ne HO_431001.out BK440.out (by decide)) e_) e_) (fun e_ => (fun e_ => (Kd.R_ne HO_431002.out BK440.out (by decide)) e_) e_))); replace HO445 := Aside0.mk (Kd.R_mono (ok' := fun k_ => some k_ ≠ (.slice Ao26 t413.length co26 : Value).ownBlock ∧ some k_ ≠ (.slice Ao34 t423.length co34 : Value).ownBlock ∧ some k_ ≠ (.slice Ao42 t432.length co42 : Value).ownBlock) (Kd.R_keptB ((Kd.R_apart' HO445.out (Kd.R_typed HO_431002.out) (by decide))) hkp (fun k_ hk_ hs_ => Or.elim hs_ (fun e_ => by first | exact hk_.1.1.2 e_ | exact hk_.1.1 e_ | exact hk_.1.2 e_ | exact hk_.1.1.1 e_ | exact hk_.1.2.1 e_ | exact hk_.1.2.2 e_ | exact hk_.2 e_ | simp_all) (fun e_ => by first | exact hk_.2 e_ | exact hk_.1.1 e_ | exact hk_.1.2 e_ | exact hk_.1.1.1 e_ | exact hk_.1.1.2 e_ | exact hk_.1.2.1 e_ | exact hk_.1.2.2 e_ | simp_all))) (fun k_ hk_ => by first | exact ⟨hk_.1.1.1.1.2, hk_.1.1.1.2, hk_.1.1.2⟩ | simp_all)); replace HO_431002 := Aside0.mk (Kd.R_reok rfl hy1 (fun k_ e_ => HO_431002.out.1 k_ e_)); replace HO448 := Aside0.mk (Kd.R_mono (ok' := fun k_ => some k_ ≠ (.slice Ao27 t416.length co27 : Value).ownBlock ∧ some k_ ≠ (.slice Ao35 t426.length co35 : Value).ownBlock ∧ some k_ ≠ (.slice Ao43 t435.length co43 : Value).ownBlock) (Kd.R_keptB ((Kd.R_apart' HO448.out (Kd.R_typed HO_431001.out) (by decide))) hkp (fun k_ hk_ hs_ => Or.elim hs_ (fun e_ => by first | exact hk_.2 e_ | exact hk_.1.1 e_ | exact hk_.1.2 e_ | exact hk_.1.1.1 e_ | exact hk_.1.1.2 e_ | exact hk_.1.2.1 e_ | exact hk_.1.2.2 e_ | simp_all) (fun e_ => by first | exact hk_.1.1.2 e_ | exact hk_.1.1 e_ | exact hk_.1.2 e_ | exact hk_.1.1.1 e_ | exact hk_.1.2.1 e_ | exact hk_.1.2.2 e_ | exact hk_.2 e_ | simp_all))) (fun k_ hk_ => by first | exact ⟨hk_.1.1.1.1.2, hk_.1.1.1.2, hk_.1.1.2⟩ | simp_all)); replace HO_431001 := Aside0.mk (Kd.R_reok rfl hy0 (fun k_ e_ => HO_431001.out.1 k_ e_)); replace HB := Aside0.mk hb; clear hb; (try clear hkp); (try clear hy0); (try clear hy1)))
    (try simp only [Act.put, List.setIfInBounds_toArray, List.set_cons_zero, List.set_cons_succ])
    go_cut [68] (fun v68 wc => ∃ (kq : Nat) (x68_66 : Bool), v68 = .bool x68_66 ∧ Aside0 (laws_FnExactDropBlob.j1 kq a1 t420 x68_66 a0_0 l0_1 l0_2 a0_3 t412 t413 t416 t419 t431 t432 t435 t438 = some r) ∧ Aside0 (kq ≤ kj13) ∧ Aside0 (Kd.R k66 66 wc w.heap.size (fun k_ => some k_ ≠ ((.slice Ao34 t423.length co34) : Value).ownBlock ∧ some k_ ≠ ((.slice Ao42 t432.length co42) : Value).ownBlock) (.slice Ao26 t413.length co26) t413) ∧ Aside0 (Kd.R k68 68 wc w.heap.size (fun k_ => some k_ ≠ ((.slice Ao35 t426.length co35) : Value).ownBlock ∧ some k_ ≠ ((.slice Ao43 t435.length co43) : Value).ownBlock) (.slice Ao27 t416.length co27) t416) ∧ Aside0 (Kd.R k66 66 wc w.heap.size (fun k_ => some k_ ≠ ((.slice Ao26 t413.length co26) : Value).ownBlock ∧ some k_ ≠ ((.slice Ao42 t432.length co42) : Value).ownBlock) (.slice Ao34 t423.length co34) t452) ∧ Aside0 (Kd.R k68 68 wc w.heap.size (fun k_ => some k_ ≠ ((.slice Ao27 t416.length co27) : Value).ownBlock ∧ some k_ ≠ ((.slice Ao43 t435.length co43) : Value).ownBlock) (.slice Ao35 t426.length co35) t453) ∧ Aside0 (Kd.R k66 66 wc w.heap.size (fun k_ => some k_ ≠ ((.slice Ao26 t413.length co26) : Value).ownBlock ∧ some k_ ≠ ((.slice Ao34 t423.length co34) : Value).ownBlock) (.slice Ao42 t432.length co42) t432) ∧ Aside0 (Kd.R k68 68 wc w.heap.size (fun k_ => some k_ ≠ ((.slice Ao27 t416.length co27) : Value).ownBlock ∧ some k_ ≠ ((.slice Ao35 t426.length co35) : Value).ownBlock) (.slice Ao43 t435.length co43) t435) ∧ Aside0 (wc.heap[gb402]? = some (.cells #[.int .i64 a0_0, (.slice A0_1 l0_1.length c0_1), (.slice A0_2 l0_2.length c0_2), .int .i64 a0_3] 25 (0, 0))) ∧ Aside0 (wc.heap[gb421]? = some (.cells #[.int .i64 t412, (.slice Ao26 t413.length co26), (.slice Ao27 t416.length co27), .int .i64 t419] 31 (0, 0))) ∧ Aside0 (wc.heap[gb430]? = some (.cells #[.int .i64 t422, (.slice Ao34 t423.length co34), (.slice Ao35 t426.length co35), .int .i64 t429] 31 (0, 0))) ∧ Aside0 (wc.heap[gb440]? = some (.cells #[.int .i64 t431, (.slice Ao42 t432.length co42), (.slice Ao43 t435.length co43), .int .i64 t438] 31 (0, 0))) ∧ Aside0 (Below w.heap.size w wc))
    case first =>
     have H := HC67.out
     clear HC67
     by_cases c78 : t451 < 0
     ·
      rw [if_pos c78] at H
      have c78b0 := decide_eq_true c78
      clear c78
      (first | rw [c78b0] | (simp only [i64_w, i32_w]; rw [c78b0]) | skip)
      have H' := Aside0.mk H
      clear H
      go_wp2
      go_meet
      case rel => exact ⟨_, (true), zq6, H', ⟨zq139⟩, ⟨zq140⟩, ⟨zq141⟩, ⟨zq142⟩, ⟨zq143⟩, ⟨zq144⟩, ⟨zq145⟩, ⟨zq82⟩, ⟨zq94⟩, ⟨zq102⟩, ⟨zq122⟩, ⟨zq115⟩⟩
     rw [if_neg c78] at H
     have c78b0 := decide_eq_false c78
     clear c78
     (first | rw [c78b0] | (simp only [i64_w, i32_w]; rw [c78b0]) | skip)
     replace H := Option.bind_eq_some_iff.mp H
     obtain ⟨t454, A790, H⟩ := H
     try dsimp only at H
     have A79 := Aside0.mk A790
     clear A790
     by_cases c80 : t454 = true
     ·
      subst c80
      have H1 : (laws_FnExactDropBlob.j1 kj13 a1 t420 (t439 != t420) a0_0 l0_1 l0_2 a0_3 t412 t413 t416 t419 t431 t432 t435 t438) = some r := by rw [if_pos rfl] at H; exact H
      clear H
      have H := H1
      clear H1
      have H' := Aside0.mk H
      clear H
      have hnb81 := NB440_402.out
      have hnc81 := NB402_440.out
      have hnb82 := NB440_421.out
      have hnc82 := NB421_440.out
      have hnb83 := NB440_430.out
      have hnc83 := NB430_440.out
      obtain ⟨hcz84_0, hcz84_1, hcz84_2, hcz84_3, hfz84_0, hfz84_1, hfz84_2, hfz84_3⟩ := c4 (w := w77) BK440
      have hnb85 := NB421_402.out
      have hnc85 := NB402_421.out
      have hnb86 := NB421_430.out
      have hnc86 := NB430_421.out
      obtain ⟨hcz87_0, hcz87_1, hcz87_2, hcz87_3, hfz87_0, hfz87_1, hfz87_2, hfz87_3⟩ := c4 (w := w77) BK421
      go_wp2_with (first | (go_at_call 19; (with_reducible refine (laws_eqStore.calls kj13 t431 _ _ t432 _ _ t435 t438 t412 _ _ t413 _ _ t416 t419 true _ ?_ ?_ ?_ ?_ ?_ ?_ ?_ ?_ A79.out).mono ?_); exact zq146; exact zq147; exact zq148; exact zq149; exact zq150; exact zq151; exact zq152; exact zq153; rintro e w88 ⟨rfl, hb⟩; replace HO_422001 := rB zq123 hb; replace HO_422002 := rB zq124 hb; replace HO_431001 := rB zq125 hb; replace HO_431002 := rB zq126 hb; replace HO_441001 := rB zq127 hb; replace HO_441002 := rB zq128 hb; replace HO445 := rB zq133 hb; replace HO448 := rB zq134 hb; replace BK402 := bF BK402 zq82 hb; replace BK421 := bF BK421 zq94 hb; replace BK430 := bF BK430 zq102 hb; replace BK440 := bF BK440 zq122 hb; replace HB := sB zq115 hb; clear hb))
      go_meet
      case rel => exact ⟨_, ((t439 != t420)), zq6, H', ⟨zq139⟩, ⟨zq140⟩, ⟨zq141⟩, ⟨zq142⟩, ⟨zq143⟩, ⟨zq144⟩, ⟨zq145⟩, ⟨zq82⟩, ⟨zq94⟩, ⟨zq102⟩, ⟨zq122⟩, ⟨zq115⟩⟩
     replace c80 := Bool.eq_false_iff.mpr c80
     subst c80
     have H1 : (laws_FnExactDropBlob.j1 kj13 a1 t420 true a0_0 l0_1 l0_2 a0_3 t412 t413 t416 t419 t431 t432 t435 t438) = some r := by rw [if_neg (show ¬ (false = true) by decide)] at H; exact H
     clear H
     have H := H1
     clear H1
     have H' := Aside0.mk H
     clear H
     have hnb89 := NB440_402.out
     have hnc89 := NB402_440.out
     have hnb90 := NB440_421.out
     have hnc90 := NB421_440.out
     have hnb91 := NB440_430.out
     have hnc91 := NB430_440.out
     obtain ⟨hcz92_0, hcz92_1, hcz92_2, hcz92_3, hfz92_0, hfz92_1, hfz92_2, hfz92_3⟩ := c4 (w := w77) BK440
     have hnb93 := NB421_402.out
     have hnc93 := NB402_421.out
     have hnb94 := NB421_430.out
     have hnc94 := NB430_421.out
     obtain ⟨hcz95_0, hcz95_1, hcz95_2, hcz95_3, hfz95_0, hfz95_1, hfz95_2, hfz95_3⟩ := c4 (w := w77) BK421
     go_wp2_with (first | (go_at_call 19; (with_reducible refine (laws_eqStore.calls kj13 t431 _ _ t432 _ _ t435 t438 t412 _ _ t413 _ _ t416 t419 false _ ?_ ?_ ?_ ?_ ?_ ?_ ?_ ?_ A79.out).mono ?_); exact zq146; exact zq147; exact zq148; exact zq149; exact zq150; exact zq151; exact zq152; exact zq153; rintro e w96 ⟨rfl, hb⟩; replace HO_422001 := rB zq123 hb; replace HO_422002 := rB zq124 hb; replace HO_431001 := rB zq125 hb; replace HO_431002 := rB zq126 hb; replace HO_441001 := rB zq127 hb; replace HO_441002 := rB zq128 hb; replace HO445 := rB zq133 hb; replace HO448 := rB zq134 hb; replace BK402 := bF BK402 zq82 hb; replace BK421 := bF BK421 zq94 hb; replace BK430 := bF BK430 zq102 hb; replace BK440 := bF BK440 zq122 hb; replace HB := sB zq115 hb; clear hb))
     go_meet
     case rel => exact ⟨_, (true), zq6, H', ⟨zq139⟩, ⟨zq140⟩, ⟨zq141⟩, ⟨zq142⟩, ⟨zq143⟩, ⟨zq144⟩, ⟨zq145⟩, ⟨zq82⟩, ⟨zq94⟩, ⟨zq102⟩, ⟨zq122⟩, ⟨zq115⟩⟩
    case rest =>
     clear HC67
     try clear c1
     try clear c2
     try clear p2
     try clear c3
     try clear c3b0
     try clear c3b1
     try clear c4
     try clear c5
     try clear c6
     try clear c6b0
     try clear c7
     try clear c8
     try clear c9
     try clear c10
     try clear c15
     try clear c17
     try clear c19
     try clear c24
     try clear c27
     try clear c31
     try clear c32
     try clear c37
     try clear c38
     try clear c39
     try clear c40
     try clear c45
     try clear c46
     try clear c47
     try clear c48
     try clear c50
     try clear c51
     try clear c54
     try clear c55
     try clear c56
     try clear c58
     try clear c59
     try clear c62
     try clear c65
     try clear c73
     try clear c74
     try clear c75
     try clear c78
     try clear c78b0
     try clear c80
     try clear c81
     try clear c82
     try clear c83
     try clear c85
     try clear c86
     try clear c89
     try clear c90
     try clear c91
     try clear c93
     try clear c94
     try clear hcz16_0
     try clear hcz16_1
     try clear hcz16_2
     try clear hcz16_3
     try clear hcz18_0
     try clear hcz18_1
     try clear hcz18_2
     try clear hcz18_3
     try clear hcz25_0
     try clear hcz25_1
     try clear hcz25_2
     try clear hcz25_3
     try clear hcz28_0
     try clear hcz28_1
     try clear hcz28_2
     try clear hcz28_3
     try clear hcz33_0
     try clear hcz33_1
     try clear hcz33_2
     try clear hcz33_3
     try clear hcz41_0
     try clear hcz41_1
     try clear hcz41_2
     try clear hcz41_3
     try clear hcz49_0
     try clear hcz49_1
     try clear hcz49_2
     try clear hcz49_3
     try clear hcz52_0
     try clear hcz52_1
     try clear hcz52_2
     try clear hcz52_3
     try clear hcz57_0
     try clear hcz57_1
     try clear hcz57_2
     try clear hcz57_3
     try clear hcz60_0
     try clear hcz60_1
     try clear hcz60_2
     try clear hcz60_3
     try clear hcz76_0
     try clear hcz76_1
     try clear hcz76_2
     try clear hcz76_3
     try clear hcz84_0
     try clear hcz84_1
     try clear hcz84_2
     try clear hcz84_3
     try clear hcz87_0
     try clear hcz87_1
     try clear hcz87_2
     try clear hcz87_3
     try clear hcz8_0
     try clear hcz8_1
     try clear hcz8_2
     try clear hcz8_3
     try clear hcz92_0
     try clear hcz92_1
     try clear hcz92_2
     try clear hcz92_3
     try clear hcz95_0
     try clear hcz95_1
     try clear hcz95_2
     try clear hcz95_3
     try clear hfz16_0
     try clear hfz16_1
     try clear hfz16_2
     try clear hfz16_3
     try clear hfz18_0
     try clear hfz18_1
     try clear hfz18_2
     try clear hfz18_3
     try clear hfz25_0
     try clear hfz25_1
     try clear hfz25_2
     try clear hfz25_3
     try clear hfz28_0
     try clear hfz28_1
     try clear hfz28_2
     try clear hfz28_3
     try clear hfz33_0
     try clear hfz33_1
     try clear hfz33_2
     try clear hfz33_3
     try clear hfz41_0
     try clear hfz41_1
     try clear hfz41_2
     try clear hfz41_3
     try clear hfz49_0
     try clear hfz49_1
     try clear hfz49_2
     try clear hfz49_3
     try clear hfz52_0
     try clear hfz52_1
     try clear hfz52_2
     try clear hfz52_3
     try clear hfz57_0
     try clear hfz57_1
     try clear hfz57_2
     try clear hfz57_3
     try clear hfz60_0
     try clear hfz60_1
     try clear hfz60_2
     try clear hfz60_3
     try clear hfz76_0
     try clear hfz76_1
     try clear hfz76_2
     try clear hfz76_3
     try clear hfz84_0
     try clear hfz84_1
     try clear hfz84_2
     try clear hfz84_3
     try clear hfz87_0
     try clear hfz87_1
     try clear hfz87_2
     try clear hfz87_3
     try clear hfz8_0
     try clear hfz8_1
     try clear hfz8_2
     try clear hfz8_3
     try clear hfz92_0
     try clear hfz92_1
     try clear hfz92_2
     try clear hfz92_3
     try clear hfz95_0
     try clear hfz95_1
     try clear hfz95_2
     try clear hfz95_3
     try clear p2
     obtain ⟨kq, x68_66, rfl, HA, HJ66, HO_422001, HO_422002, HO_431001, HO_431002, HO_441001, HO_441002, BK402, BK421, BK430, BK440, HB⟩ := hcut
     have hl431001_66 := (Kd.R_reads' HO_431001.out).1
     rw [hl431001_66] at HO_431001
     (try simp only [hl431001_66])
     (try simp only [hl431001_66] at BK402)
     (try simp only [hl431001_66] at BK421)
     (try simp only [hl431001_66] at BK430)
     (try simp only [hl431001_66] at BK440)
     (try simp only [hl431001_66] at HO_422001)
     (try simp only [hl431001_66] at HO_422002)
     (try simp only [hl431001_66] at HO_431002)
     (try simp only [hl431001_66] at HO_441001)
     (try simp only [hl431001_66] at HO_441002)
     have hl431002_66 := (Kd.R_reads' HO_431002.out).1
     rw [hl431002_66] at HO_431002
     (try simp only [hl431002_66])
     (try simp only [hl431002_66] at BK402)
     (try simp only [hl431002_66] at BK421)
     (try simp only [hl431002_66] at BK430)
     (try simp only [hl431002_66] at BK440)
     (try simp only [hl431002_66] at HO_422001)
     (try simp only [hl431002_66] at HO_422002)
     (try simp only [hl431002_66] at HO_431001)
     (try simp only [hl431002_66] at HO_441001)
     (try simp only [hl431002_66] at HO_441002)
     cases kq with
     | zero => exact absurd HA.out (by simp [laws_FnExactDropBlob.j1])
     | succ kj66 =>
      have H := HA.out
      clear HA
      simp only [laws_FnExactDropBlob.j1] at H
      by_cases c97 : x68_66 = true
      ·
       subst c97
       have H1 : (some false) = some r := by rw [if_pos rfl] at H; exact H
       clear H
       have H := H1
       clear H1
       obtain rfl := Option.some.inj H
       go_wp2
       go_ret
       exact ⟨zq4, zq115⟩
      replace c97 := Bool.eq_false_iff.mpr c97
      subst c97
      have H1 : ((laws_markStore.f kj66 t431 t432 t435 t438 1).bind fun bt455 => ((laws_heldStore.f kj66 t431 bt455.2.1 bt455.2.2 t438 1).bind fun t458 => (if t458 < 0 then (some false) else (if t458 = bt455.1 then ((laws_toStore.f kj66 a0_0 l0_1 l0_2 a0_3).bind fun bt459 => ((impl_DropBlob.f kj66 bt459.1 bt459.2.1 bt459.2.2.1 bt459.2.2.2 a1).bind fun bt467 => ((laws_eqStore.f kj66 bt467.1 bt467.2.1 bt467.2.2.1 bt467.2.2.2.1 t412 t413 t416 t419).bind fun t477 => (if t477 = true then (laws_FnExactDropBlob.j2 kj66 bt455.1 (bt467.2.2.2.2 != t420) t431 bt455.2.1 bt455.2.2 t438) else (laws_FnExactDropBlob.j2 kj66 bt455.1 true t431 bt455.2.1 bt455.2.2 t438))))) else (some false))))) = some r := by rw [if_neg (show ¬ (false = true) by decide)] at H; exact H
      clear H
      have H := H1
      clear H1
      replace H := Option.bind_eq_some_iff.mp H
      obtain ⟨⟨t455, t456, t457⟩, A980, H⟩ := H
      try dsimp only at H
      have A98 := Aside0.mk A980
      clear A980
      replace H := Option.bind_eq_some_iff.mp H
      obtain ⟨t458, A990, H⟩ := H
      try dsimp only at H
      have A99 := Aside0.mk A990
      clear A990
      by_cases c100 : t458 < 0
      ·
       rw [if_pos c100] at H
       have c100b0 := decide_eq_true c100
       clear c100
       obtain rfl := Option.some.inj H
       have hnb101 := NB440_402.out
       have hnc101 := NB402_440.out
       have hnb102 := NB440_421.out
       have hnc102 := NB421_440.out
       have hnb103 := NB440_430.out
       have hnc103 := NB430_440.out
       obtain ⟨hcz104_0, hcz104_1, hcz104_2, hcz104_3, hfz104_0, hfz104_1, hfz104_2, hfz104_3⟩ := c4 (w := wc) BK440
       go_wp2_with (first | ((with_reducible refine gC 27 rfl ?_); refine gL 71 Try.func27 #[.agg #[.int .i64 t431, .slice Ao42 t432.length co42, .slice Ao43 t435.length co43, .int .i64 t438], .int .i64 1] ?_; (with_reducible refine (laws_markStore.calls kj66 t431 (fun k_ => some k_ = (.slice Ao42 t432.length co42 : Value).ownBlock) (.slice Ao42 t432.length co42) t432 (fun k_ => some k_ = (.slice Ao43 t435.length co43 : Value).ownBlock) (.slice Ao43 t435.length co43) t435 t438 1 t455 t456 t457 w _ ?_ ?_ ?_ A98.out).mono ?_); exact zq115; exact zq154; exact zq155; rintro e w105 ⟨rfl, hy0, hy1, hb, hkp⟩; refine ⟨_, rfl, ?_⟩; replace HO_422001 := Aside0.mk (Kd.R_mono (ok' := fun k_ => some k_ ≠ (.slice Ao34 t452.length co34 : Value).ownBlock ∧ some k_ ≠ (.slice Ao42 t432.length co42 : Value).ownBlock) (Kd.R_keptB ((Kd.R_apart' HO_422001.out (Kd.R_typed HO_441002.out) (by decide))) hkp (fun k_ hk_ hs_ => Or.elim hs_ (fun e_ => by first | exact hk_.1.2 e_ | exact hk_.1.1 e_ | exact hk_.1.1.1 e_ | exact hk_.1.1.2 e_ | exact hk_.1.2.1 e_ | exact hk_.1.2.2 e_ | exact hk_.2 e_ | simp_all) (fun e_ => by first | exact hk_.2 e_ | exact hk_.1.1 e_ | exact hk_.1.2 e_ | exact hk_.1.1.1 e_ | exact hk_.1.1.2 e_ | exact hk_.1.2.1 e_ | exact hk_.1.2.2 e_ | simp_all))) (fun k_ hk_ => by first | exact ⟨hk_.1.1.1, hk_.1.1.2⟩ | simp_all)); replace HO_422002 := Aside0.mk (Kd.R_mono (ok' := fun k_ => some k_ ≠ (.slice Ao35 t453.length co35 : Value).ownBlock ∧ some k_ ≠ (.slice Ao43 t435.length co43 : Value).ownBlock) (Kd.R_keptB ((Kd.R_apart' HO_422002.out (Kd.R_typed HO_441001.out) (by decide))) hkp (fun k_ hk_ hs_ => Or.elim hs_ (fun e_ => by first | exact hk_.2 e_ | exact hk_.1.1 e_ | exact hk_.1.2 e_ | exact hk_.1.1.1 e_ | exact hk_.1.1.2 e_ | exact hk_.1.2.1 e_ | exact hk_.1.2.2 e_ | simp_all) (fun e_ => by first | exact hk_.1.2 e_ | exact hk_.1.1 e_ | exact hk_.1.1.1 e_ | exact hk_.1.1.2 e_ | exact hk_.1.2.1 e_ | exact hk_.1.2.2 e_ | exact hk_.2 e_ | simp_all))) (fun k_ hk_ => by first | exact ⟨hk_.1.1.1, hk_.1.1.2⟩ | simp_all)); replace HO_431001 := Aside0.mk (Kd.R_mono (ok' := fun k_ => some k_ ≠ (.slice Ao26 t413.length co26 : Value).ownBlock ∧ some k_ ≠ (.slice Ao42 t432.length co42 : Value).ownBlock) (Kd.R_keptB ((Kd.R_apart' HO_431001.out (Kd.R_typed HO_441002.out) (by decide))) hkp (fun k_ hk_ hs_ => Or.elim hs_ (fun e_ => by first | exact hk_.1.2 e_ | exact hk_.1.1 e_ | exact hk_.1.1.1 e_ | exact hk_.1.1.2 e_ | exact hk_.1.2.1 e_ | exact hk_.1.2.2 e_ | exact hk_.2 e_ | simp_all) (fun e_ => by first | exact hk_.2 e_ | exact hk_.1.1 e_ | exact hk_.1.2 e_ | exact hk_.1.1.1 e_ | exact hk_.1.1.2 e_ | exact hk_.1.2.1 e_ | exact hk_.1.2.2 e_ | simp_all))) (fun k_ hk_ => by first | exact ⟨hk_.1.1.1, hk_.1.1.2⟩ | simp_all)); replace HO_431002 := Aside0.mk (Kd.R_mono (ok' := fun k_ => some k_ ≠ (.slice Ao27 t416.length co27 : Value).ownBlock ∧ some k_ ≠ (.slice Ao43 t435.length co43 : Value).ownBlock) (Kd.R_keptB ((Kd.R_apart' HO_431002.out (Kd.R_typed HO_441001.out) (by decide))) hkp (fun k_ hk_ hs_ => Or.elim hs_ (fun e_ => by first | exact hk_.2 e_ | exact hk_.1.1 e_ | exact hk_.1.2 e_ | exact hk_.1.1.1 e_ | exact hk_.1.1.2 e_ | exact hk_.1.2.1 e_ | exact hk_.1.2.2 e_ | simp_all) (fun e_ => by first | exact hk_.1.2 e_ | exact hk_.1.1 e_ | exact hk_.1.1.1 e_ | exact hk_.1.1.2 e_ | exact hk_.1.2.1 e_ | exact hk_.1.2.2 e_ | exact hk_.2 e_ | simp_all))) (fun k_ hk_ => by first | exact ⟨hk_.1.1.1, hk_.1.1.2⟩ | simp_all)); replace BK402 := Aside0.mk (blk_kept zq135 hkp (fun hs_ => Or.elim hs_ (fun e_ => (fun e_ => (Kd.R_ne HO_441001.out BK402.out (by decide)) e_) e_) (fun e_ => (fun e_ => (Kd.R_ne HO_441002.out BK402.out (by decide)) e_) e_))); replace BK421 := Aside0.mk (blk_kept zq136 hkp (fun hs_ => Or.elim hs_ (fun e_ => (fun e_ => (Kd.R_ne HO_441001.out BK421.out (by decide)) e_) e_) (fun e_ => (fun e_ => (Kd.R_ne HO_441002.out BK421.out (by decide)) e_) e_))); replace BK430 := Aside0.mk (blk_kept zq137 hkp (fun hs_ => Or.elim hs_ (fun e_ => (fun e_ => (Kd.R_ne HO_441001.out BK430.out (by decide)) e_) e_) (fun e_ => (fun e_ => (Kd.R_ne HO_441002.out BK430.out (by decide)) e_) e_))); replace BK440 := Aside0.mk (blk_kept zq138 hkp (fun hs_ => Or.elim hs_ (fun e_ => (fun e_ => (Kd.R_ne HO_441001.out BK440.out (by decide)) e_) e_) (fun e_ => (fun e_ => (Kd.R_ne HO_441002.out BK440.out (by decide)) e_) e_))); replace HO_441001 := Aside0.mk (Kd.R_reok rfl hy0 (fun k_ e_ => HO_441001.out.1 k_ e_)); replace HO_441002 := Aside0.mk (Kd.R_reok rfl hy1 (fun k_ e_ => HO_441002.out.1 k_ e_)); replace HB := Aside0.mk hb; clear hb; (try clear hkp); (try clear hy0); (try clear hy1); obtain ⟨hcz106_0, hcz106_1, hcz106_2, hcz106_3, hfz106_0, hfz106_1, hfz106_2, hfz106_3⟩ := c4 (w := w105) BK440) | ((with_reducible refine gC 32 rfl ?_); refine gL 74 Try.func32 #[.agg #[.int .i64 t431, .slice Ao42 t456.length co42, .slice Ao43 t457.length co43, .int .i64 t438], .int .i64 1] ?_ (hargs := by (try simp only [List.map_toArray, List.map_cons, List.map_nil]); first | done | (rw [show t456.length = t432.length from (Kd.R_reads' HO_441001.out).1.symm, show t457.length = t435.length from (Kd.R_reads' HO_441002.out).1.symm] <;> rfl) | rfl | (simp only [List.length_drop, List.length_take]; rfl)); (with_reducible refine (laws_heldStore.calls kj66 t431 _ _ t456 _ _ t457 t438 1 t458 _ ?_ ?_ ?_ ?_ A99.out).mono ?_); exact zq146; exact zq157; exact zq148; exact zq158; rintro e w107 ⟨rfl, hb⟩; refine ⟨_, rfl, ?_⟩; replace HO_422001 := rB zq123 hb; replace HO_422002 := rB zq124 hb; replace HO_431001 := rB zq125 hb; replace HO_431002 := rB zq126 hb; replace HO_441001 := rB zq127 hb; replace HO_441002 := rB zq128 hb; replace BK402 := bF BK402 zq82 hb; replace BK421 := bF BK421 zq94 hb; replace BK430 := bF BK430 zq102 hb; replace BK440 := bF BK440 zq122 hb; replace HB := sB zq115 hb; clear hb))
       go_ret
       exact ⟨zq4, zq115⟩
      rw [if_neg c100] at H
      have c100b0 := decide_eq_false c100
      clear c100
      by_cases c108 : t458 = t455
      ·
       rw [if_pos c108] at H
       have c108b0 : (t458 == t455) = true := beq_iff_eq.mpr c108
       have c108b1 : (t458 != t455) = false := bne_eq_false_iff_eq.mpr c108
       clear c108
       replace H := Option.bind_eq_some_iff.mp H
       obtain ⟨⟨t459, t460, t463, t466⟩, A1090, H⟩ := H
       try dsimp only at H
       have A109 := Aside0.mk A1090
       clear A1090
       replace H := Option.bind_eq_some_iff.mp H
       obtain ⟨⟨t467, t468, t471, t474, t475⟩, A1100, H⟩ := H
       try dsimp only at H
       have A110 := Aside0.mk A1100
       clear A1100
       have HC111 := Aside0.mk H
       clear H
       have hnb112 := NB440_402.out
       have hnc112 := NB402_440.out
       have hnb113 := NB440_421.out
       have hnc113 := NB421_440.out
       have hnb114 := NB440_430.out
       have hnc114 := NB430_440.out
       obtain ⟨hcz115_0, hcz115_1, hcz115_2, hcz115_3, hfz115_0, hfz115_1, hfz115_2, hfz115_3⟩ := c4 (w := wc) BK440
       go_upto_region 27 with (first | ((with_reducible refine gC 27 rfl ?_); refine gL 71 Try.func27 #[.agg #[.int .i64 t431, .slice Ao42 t432.length co42, .slice Ao43 t435.length co43, .int .i64 t438], .int .i64 1] ?_; (with_reducible refine (laws_markStore.calls kj66 t431 (fun k_ => some k_ = (.slice Ao42 t432.length co42 : Value).ownBlock) (.slice Ao42 t432.length co42) t432 (fun k_ => some k_ = (.slice Ao43 t435.length co43 : Value).ownBlock) (.slice Ao43 t435.length co43) t435 t438 1 t455 t456 t457 w _ ?_ ?_ ?_ A98.out).mono ?_); exact zq115; exact zq154; exact zq155; rintro e w116 ⟨rfl, hy0, hy1, hb, hkp⟩; refine ⟨_, rfl, ?_⟩; replace HO_422001 := Aside0.mk (Kd.R_mono (ok' := fun k_ => some k_ ≠ (.slice Ao34 t452.length co34 : Value).ownBlock ∧ some k_ ≠ (.slice Ao42 t432.length co42 : Value).ownBlock) (Kd.R_keptB ((Kd.R_apart' HO_422001.out (Kd.R_typed HO_441002.out) (by decide))) hkp (fun k_ hk_ hs_ => Or.elim hs_ (fun e_ => by first | exact hk_.1.2 e_ | exact hk_.1.1 e_ | exact hk_.1.1.1 e_ | exact hk_.1.1.2 e_ | exact hk_.1.2.1 e_ | exact hk_.1.2.2 e_ | exact hk_.2 e_ | simp_all) (fun e_ => by first | exact hk_.2 e_ | exact hk_.1.1 e_ | exact hk_.1.2 e_ | exact hk_.1.1.1 e_ | exact hk_.1.1.2 e_ | exact hk_.1.2.1 e_ | exact hk_.1.2.2 e_ | simp_all))) (fun k_ hk_ => by first | exact ⟨hk_.1.1.1, hk_.1.1.2⟩ | simp_all)); replace HO_422002 := Aside0.mk (Kd.R_mono (ok' := fun k_ => some k_ ≠ (.slice Ao35 t453.length co35 : Value).ownBlock ∧ some k_ ≠ (.slice Ao43 t435.length co43 : Value).ownBlock) (Kd.R_keptB ((Kd.R_apart' HO_422002.out (Kd.R_typed HO_441001.out) (by decide))) hkp (fun k_ hk_ hs_ => Or.elim hs_ (fun e_ => by first | exact hk_.2 e_ | exact hk_.1.1 e_ | exact hk_.1.2 e_ | exact hk_.1.1.1 e_ | exact hk_.1.1.2 e_ | exact hk_.1.2.1 e_ | exact hk_.1.2.2 e_ | simp_all) (fun e_ => by first | exact hk_.1.2 e_ | exact hk_.1.1 e_ | exact hk_.1.1.1 e_ | exact hk_.1.1.2 e_ | exact hk_.1.2.1 e_ | exact hk_.1.2.2 e_ | exact hk_.2 e_ | simp_all))) (fun k_ hk_ => by first | exact ⟨hk_.1.1.1, hk_.1.1.2⟩ | simp_all)); replace HO_431001 := Aside0.mk (Kd.R_mono (ok' := fun k_ => some k_ ≠ (.slice Ao26 t413.length co26 : Value).ownBlock ∧ some k_ ≠ (.slice Ao42 t432.length co42 : Value).ownBlock) (Kd.R_keptB ((Kd.R_apart' HO_431001.out (Kd.R_typed HO_441002.out) (by decide))) hkp (fun k_ hk_ hs_ => Or.elim hs_ (fun e_ => by first | exact hk_.1.2 e_ | exact hk_.1.1 e_ | exact hk_.1.1.1 e_ | exact hk_.1.1.2 e_ | exact hk_.1.2.1 e_ | exact hk_.1.2.2 e_ | exact hk_.2 e_ | simp_all) (fun e_ => by first | exact hk_.2 e_ | exact hk_.1.1 e_ | exact hk_.1.2 e_ | exact hk_.1.1.1 e_ | exact hk_.1.1.2 e_ | exact hk_.1.2.1 e_ | exact hk_.1.2.2 e_ | simp_all))) (fun k_ hk_ => by first | exact ⟨hk_.1.1.1, hk_.1.1.2⟩ | simp_all)); replace HO_431002 := Aside0.mk (Kd.R_mono (ok' := fun k_ => some k_ ≠ (.slice Ao27 t416.length co27 : Value).ownBlock ∧ some k_ ≠ (.slice Ao43 t435.length co43 : Value).ownBlock) (Kd.R_keptB ((Kd.R_apart' HO_431002.out (Kd.R_typed HO_441001.out) (by decide))) hkp (fun k_ hk_ hs_ => Or.elim hs_ (fun e_ => by first | exact hk_.2 e_ | exact hk_.1.1 e_ | exact hk_.1.2 e_ | exact hk_.1.1.1 e_ | exact hk_.1.1.2 e_ | exact hk_.1.2.1 e_ | exact hk_.1.2.2 e_ | simp_all) (fun e_ => by first | exact hk_.1.2 e_ | exact hk_.1.1 e_ | exact hk_.1.1.1 e_ | exact hk_.1.1.2 e_ | exact hk_.1.2.1 e_ | exact hk_.1.2.2 e_ | exact hk_.2 e_ | simp_all))) (fun k_ hk_ => by first | exact ⟨hk_.1.1.1, hk_.1.1.2⟩ | simp_all)); replace BK402 := Aside0.mk (blk_kept zq135 hkp (fun hs_ => Or.elim hs_ (fun e_ => (fun e_ => (Kd.R_ne HO_441001.out BK402.out (by decide)) e_) e_) (fun e_ => (fun e_ => (Kd.R_ne HO_441002.out BK402.out (by decide)) e_) e_))); replace BK421 := Aside0.mk (blk_kept zq136 hkp (fun hs_ => Or.elim hs_ (fun e_ => (fun e_ => (Kd.R_ne HO_441001.out BK421.out (by decide)) e_) e_) (fun e_ => (fun e_ => (Kd.R_ne HO_441002.out BK421.out (by decide)) e_) e_))); replace BK430 := Aside0.mk (blk_kept zq137 hkp (fun hs_ => Or.elim hs_ (fun e_ => (fun e_ => (Kd.R_ne HO_441001.out BK430.out (by decide)) e_) e_) (fun e_ => (fun e_ => (Kd.R_ne HO_441002.out BK430.out (by decide)) e_) e_))); replace BK440 := Aside0.mk (blk_kept zq138 hkp (fun hs_ => Or.elim hs_ (fun e_ => (fun e_ => (Kd.R_ne HO_441001.out BK440.out (by decide)) e_) e_) (fun e_ => (fun e_ => (Kd.R_ne HO_441002.out BK440.out (by decide)) e_) e_))); replace HO_441001 := Aside0.mk (Kd.R_reok rfl hy0 (fun k_ e_ => HO_441001.out.1 k_ e_)); replace HO_441002 := Aside0.mk (Kd.R_reok rfl hy1 (fun k_ e_ => HO_441002.out.1 k_ e_)); replace HB := Aside0.mk hb; clear hb; (try clear hkp); (try clear hy0); (try clear hy1); obtain ⟨hcz117_0, hcz117_1, hcz117_2, hcz117_3, hfz117_0, hfz117_1, hfz117_2, hfz117_3⟩ := c4 (w := w116) BK440) | ((with_reducible refine gC 32 rfl ?_); refine gL 74 Try.func32 #[.agg #[.int .i64 t431, .slice Ao42 t456.length co42, .slice Ao43 t457.length co43, .int .i64 t438], .int .i64 1] ?_ (hargs := by (try simp only [List.map_toArray, List.map_cons, List.map_nil]); first | done | (rw [show t456.length = t432.length from (Kd.R_reads' HO_441001.out).1.symm, show t457.length = t435.length from (Kd.R_reads' HO_441002.out).1.symm] <;> rfl) | rfl | (simp only [List.length_drop, List.length_take]; rfl)); (with_reducible refine (laws_heldStore.calls kj66 t431 _ _ t456 _ _ t457 t438 1 t458 _ ?_ ?_ ?_ ?_ A99.out).mono ?_); exact zq146; exact zq157; exact zq148; exact zq158; rintro e w118 ⟨rfl, hb⟩; refine ⟨_, rfl, ?_⟩; replace HO_422001 := rB zq123 hb; replace HO_422002 := rB zq124 hb; replace HO_431001 := rB zq125 hb; replace HO_431002 := rB zq126 hb; replace HO_441001 := rB zq127 hb; replace HO_441002 := rB zq128 hb; replace BK402 := bF BK402 zq82 hb; replace BK421 := bF BK421 zq94 hb; replace BK430 := bF BK430 zq102 hb; replace BK440 := bF BK440 zq122 hb; replace HB := sB zq115 hb; clear hb; have hnb119 := NB402_421.out; have hnc119 := NB421_402.out; have hnb120 := NB402_430.out; have hnc120 := NB430_402.out; obtain ⟨hcz121_0, hcz121_1, hcz121_2, hcz121_3, hfz121_0, hfz121_1, hfz121_2, hfz121_3⟩ := c4 (w := w118) BK402) | ((with_reducible refine gC 17 rfl ?_); refine gL 82 Try.func17 #[.agg #[.int .i64 a0_0, .slice A0_1 l0_1.length c0_1, .slice A0_2 l0_2.length c0_2, .int .i64 a0_3]] ?_; (with_reducible refine (laws_toStore.calls kj66 a0_0 _ _ l0_1 _ _ l0_2 a0_3 t459 t460 t463 t466 _ ?_ ?_ ?_ ?_ A109.out).mono ?_); exact zq11; exact zq12; exact zq15; exact zq16; rintro e w122 ⟨v461, v464, rfl, ho0, ho1, hb⟩; refine ⟨_, rfl, ?_⟩; have HO462 := Aside0.mk (Kd.R_lower (Kd.R_new' (Kd.R_new' (Kd.R_new' ho0 (Kd.R_lt zq123)) (Kd.R_lt zq125)) (Kd.R_lt zq127)) (below_size zq115)); replace HO_422001 := Aside0.mk (Kd.R_elder' zq123 (Kd.R_base ho0) hb); replace HO_431001 := Aside0.mk (Kd.R_elder' zq125 (Kd.R_base ho0) hb); replace HO_441001 := Aside0.mk (Kd.R_elder' zq127 (Kd.R_base ho0) hb); have HO465 := Aside0.mk (Kd.R_lower (Kd.R_new' (Kd.R_new' (Kd.R_new' ho1 (Kd.R_lt zq124)) (Kd.R_lt zq126)) (Kd.R_lt zq128)) (below_size zq115)); replace HO_422002 := Aside0.mk (Kd.R_elder' zq124 (Kd.R_base ho1) hb); replace HO_431002 := Aside0.mk (Kd.R_elder' zq126 (Kd.R_base ho1) hb); replace HO_441002 := Aside0.mk (Kd.R_elder' zq128 (Kd.R_base ho1) hb); replace BK402 := bF BK402 zq82 hb; replace BK421 := bF BK421 zq94 hb; replace BK430 := bF BK430 zq102 hb; replace BK440 := bF BK440 zq122 hb; replace HB := sB zq115 hb; clear hb; (try clear ho0); (try clear ho1); obtain ⟨Ao123, co123, eo123⟩ := Kd.R_slice HO462.out; subst eo123; obtain ⟨Ao124, co124, eo124⟩ := Kd.R_slice HO465.out; subst eo124) | ((with_reducible refine gC 38 rfl ?_); refine gL 84 Try.func38 #[.agg #[.int .i64 t459, .slice Ao123 t460.length co123, .slice Ao124 t463.length co124, .int .i64 t466], .string a1] ?_; (with_reducible refine (impl_DropBlob.calls kj66 t459 _ _ t460 _ _ t463 t466 a1 t467 t468 t471 t474 t475 _ ?side1 ?_ ?side3 ?_ A110.out).mono ?_); (case side1 => repeat (first | exact (Kd.R_reads' HO462.out).2.2 | (with_reducible refine Kd.C_alloc ?_ _) | (with_reducible refine Kd.C_drewN ?_ _) | (with_reducible refine Kd.C_drew ?_))); exact (Kd.R_reads' HO462.out).2.1; (case side3 => repeat (first | exact (Kd.R_reads' HO465.out).2.2 | (with_reducible refine Kd.C_alloc ?_ _) | (with_reducible refine Kd.C_drewN ?_ _) | (with_reducible refine Kd.C_drew ?_))); exact (Kd.R_reads' HO465.out).2.1; rintro e w125 ⟨v469, v472, rfl, ho0, ho1, hb⟩; refine ⟨_, rfl, ?_⟩; have HO470 := Aside0.mk (Kd.R_lower (Kd.R_new' (Kd.R_new' (Kd.R_new' (Kd.R_new' ho0 (Kd.R_lt zq123)) (Kd.R_lt zq125)) (Kd.R_lt zq127)) (Kd.R_lt zq159)) (below_size zq115)); replace HO_422001 := Aside0.mk (Kd.R_elder' zq123 (Kd.R_base ho0) hb); replace HO_431001 := Aside0.mk (Kd.R_elder' zq125 (Kd.R_base ho0) hb); replace HO_441001 := Aside0.mk (Kd.R_elder' zq127 (Kd.R_base ho0) hb); replace HO462 := Aside0.mk (Kd.R_elder' zq159 (Kd.R_base ho0) hb); have HO473 := Aside0.mk (Kd.R_lower (Kd.R_new' (Kd.R_new' (Kd.R_new' (Kd.R_new' ho1 (Kd.R_lt zq124)) (Kd.R_lt zq126)) (Kd.R_lt zq128)) (Kd.R_lt zq160)) (below_size zq115)); replace HO_422002 := Aside0.mk (Kd.R_elder' zq124 (Kd.R_base ho1) hb); replace HO_431002 := Aside0.mk (Kd.R_elder' zq126 (Kd.R_base ho1) hb); replace HO_441002 := Aside0.mk (Kd.R_elder' zq128 (Kd.R_base ho1) hb); replace HO465 := Aside0.mk (Kd.R_elder' zq160 (Kd.R_base ho1) hb); replace BK402 := bF BK402 zq82 hb; replace BK421 := bF BK421 zq94 hb; replace BK430 := bF BK430 zq102 hb; replace BK440 := bF BK440 zq122 hb; replace HB := sB zq115 hb; clear hb; (try clear ho0); (try clear ho1)) | ((with_reducible refine gate_dst (N := 14) rfl ?_); refine box_event ?hg (N := 14) ?hd (cs := #[.int .i64 0, .slice none 0 0, .slice none 0 0, .int .i64 0]) (t := 31) ?hr ?_; (case hd => rfl); (case hg => rfl); (case hr => exact zq2); intro gb476 hg w126 hbox hb; replace HO_422001 := rB zq123 hb; replace HO_422002 := rB zq124 hb; replace HO_431001 := rB zq125 hb; replace HO_431002 := rB zq126 hb; replace HO_441001 := rB zq127 hb; replace HO_441002 := rB zq128 hb; replace HO462 := rB zq159 hb; replace HO465 := rB zq160 hb; replace HO470 := rB (by (with_reducible repeat (first | apply Kd.R_alloc | apply Kd.R_drewN | apply Kd.R_drew)); exact HO470.out) hb; replace HO473 := rB (by (with_reducible repeat (first | apply Kd.R_alloc | apply Kd.R_drewN | apply Kd.R_drew)); exact HO473.out) hb; have BK476 := Aside0.mk hbox; have GW476 := Aside0.mk (by rw [hg]; exact (below_size zq115) : w.heap.size ≤ gb476); have GE476 := Aside0.mk (by rw [hg]; exact (below_size zq115) : w.heap.size ≤ gb476); replace HB := sB zq115 hb; have NB402_476 := Aside0.mk (zq279 : gb402 ≠ gb476); have NB476_402 := Aside0.mk (zq280 : gb476 ≠ gb402); replace BK402 := bF BK402 zq82 hb; have NB421_476 := Aside0.mk (zq281 : gb421 ≠ gb476); have NB476_421 := Aside0.mk (zq282 : gb476 ≠ gb421); replace BK421 := bF BK421 zq94 hb; have NB430_476 := Aside0.mk (by rw [hg]; exact Nat.ne_of_lt (blk_lt (g := gb430) (o := .cells #[.int .i64 t422, .slice Ao34 t452.length co34, .slice Ao35 t453.length co35, .int .i64 t429] 31 (0, 0)) zq102) : gb430 ≠ gb476); have NB476_430 := Aside0.mk (by rw [hg]; exact Nat.ne_of_gt (blk_lt (g := gb430) (o := .cells #[.int .i64 t422, .slice Ao34 t452.length co34, .slice Ao35 t453.length co35, .int .i64 t429] 31 (0, 0)) zq102) : gb476 ≠ gb430); replace BK430 := bF BK430 zq102 hb; have NB440_476 := Aside0.mk (by rw [hg]; exact Nat.ne_of_lt (blk_lt (g := gb440) (o := .cells #[.int .i64 t431, .slice Ao42 t432.length co42, .slice Ao43 t435.length co43, .int .i64 t438] 31 (0, 0)) zq122) : gb440 ≠ gb476); have NB476_440 := Aside0.mk (by rw [hg]; exact Nat.ne_of_gt (blk_lt (g := gb440) (o := .cells #[.int .i64 t431, .slice Ao42 t432.length co42, .slice Ao43 t435.length co43, .int .i64 t438] 31 (0, 0)) zq122) : gb476 ≠ gb440); replace BK440 := bF BK440 zq122 hb; clear hb hbox hg; have hnb127 := NB476_402.out; have hnc127 := NB402_476.out; have hnb128 := NB476_421.out; have hnc128 := NB421_476.out; have hnb129 := NB476_430.out; have hnc129 := NB430_476.out; have hnb130 := NB476_440.out; have hnc130 := NB440_476.out; obtain ⟨hcz131_0, hcz131_1, hcz131_2, hcz131_3, hfz131_0, hfz131_1, hfz131_2, hfz131_3⟩ := c4 (w := w126) BK476; obtain ⟨Ao132, co132, eo132⟩ := Kd.R_slice HO470.out; subst eo132; obtain ⟨Ao133, co133, eo133⟩ := Kd.R_slice HO473.out; subst eo133))
       (try simp only [Act.put, List.setIfInBounds_toArray, List.set_cons_zero, List.set_cons_succ])
       go_cut [95] (fun v95 wc => ∃ (kq : Nat) (x95_110 : Bool), v95 = .bool x95_110 ∧ Aside0 (laws_FnExactDropBlob.j2 kq t455 x95_110 t431 t456 t457 t438 = some r) ∧ Aside0 (kq ≤ kj66) ∧ Aside0 (Kd.R k66 66 wc w.heap.size (fun k_ => some k_ ≠ ((.slice Ao34 t452.length co34) : Value).ownBlock ∧ some k_ ≠ ((.slice Ao42 t432.length co42) : Value).ownBlock ∧ some k_ ≠ ((.slice Ao132 t468.length co132) : Value).ownBlock) (.slice Ao26 t413.length co26) t413) ∧ Aside0 (Kd.R k68 68 wc w.heap.size (fun k_ => some k_ ≠ ((.slice Ao35 t453.length co35) : Value).ownBlock ∧ some k_ ≠ ((.slice Ao43 t435.length co43) : Value).ownBlock ∧ some k_ ≠ ((.slice Ao133 t471.length co133) : Value).ownBlock) (.slice Ao27 t416.length co27) t416) ∧ Aside0 (Kd.R k66 66 wc w.heap.size (fun k_ => some k_ ≠ ((.slice Ao26 t413.length co26) : Value).ownBlock ∧ some k_ ≠ ((.slice Ao42 t432.length co42) : Value).ownBlock ∧ some k_ ≠ ((.slice Ao132 t468.length co132) : Value).ownBlock) (.slice Ao34 t452.length co34) t452) ∧ Aside0 (Kd.R k68 68 wc w.heap.size (fun k_ => some k_ ≠ ((.slice Ao27 t416.length co27) : Value).ownBlock ∧ some k_ ≠ ((.slice Ao43 t435.length co43) : Value).ownBlock ∧ some k_ ≠ ((.slice Ao133 t471.length co133) : Value).ownBlock) (.slice Ao35 t453.length co35) t453) ∧ Aside0 (Kd.R k66 66 wc w.heap.size (fun k_ => some k_ ≠ ((.slice Ao26 t413.length co26) : Value).ownBlock ∧ some k_ ≠ ((.slice Ao34 t452.length co34) : Value).ownBlock ∧ some k_ ≠ ((.slice Ao132 t468.length co132) : Value).ownBlock) (.slice Ao42 t432.length co42) t456) ∧ Aside0 (Kd.R k68 68 wc w.heap.size (fun k_ => some k_ ≠ ((.slice Ao27 t416.length co27) : Value).ownBlock ∧ some k_ ≠ ((.slice Ao35 t453.length co35) : Value).ownBlock ∧ some k_ ≠ ((.slice Ao133 t471.length co133) : Value).ownBlock) (.slice Ao43 t435.length co43) t457) ∧ Aside0 (Kd.R k66 66 wc w.heap.size (fun k_ => some k_ ≠ ((.slice Ao26 t413.length co26) : Value).ownBlock ∧ some k_ ≠ ((.slice Ao34 t452.length co34) : Value).ownBlock ∧ some k_ ≠ ((.slice Ao42 t432.length co42) : Value).ownBlock) (.slice Ao132 t468.length co132) t468) ∧ Aside0 (Kd.R k68 68 wc w.heap.size (fun k_ => some k_ ≠ ((.slice Ao27 t416.length co27) : Value).ownBlock ∧ some k_ ≠ ((.slice Ao35 t453.length co35) : Value).ownBlock ∧ some k_ ≠ ((.slice Ao43 t435.length co43) : Value).ownBlock) (.slice Ao133 t471.length co133) t471) ∧ Aside0 (wc.heap[gb402]? = some (.cells #[.int .i64 a0_0, (.slice A0_1 l0_1.length c0_1), (.slice A0_2 l0_2.length c0_2), .int .i64 a0_3] 25 (0, 0))) ∧ Aside0 (wc.heap[gb421]? = some (.cells #[.int .i64 t412, (.slice Ao26 t413.length co26), (.slice Ao27 t416.length co27), .int .i64 t419] 31 (0, 0))) ∧ Aside0 (wc.heap[gb430]? = some (.cells #[.int .i64 t422, (.slice Ao34 t452.length co34), (.slice Ao35 t453.length co35), .int .i64 t429] 31 (0, 0))) ∧ Aside0 (wc.heap[gb440]? = some (.cells #[.int .i64 t431, (.slice Ao42 t432.length co42), (.slice Ao43 t435.length co43), .int .i64 t438] 31 (0, 0))) ∧ Aside0 (wc.heap[gb476]? = some (.cells #[.int .i64 t467, (.slice Ao132 t468.length co132), (.slice Ao133 t471.length co133), .int .i64 t474] 31 (0, 0))) ∧ Aside0 (Below w.heap.size w wc))
       case first =>
        have H := HC111.out
        clear HC111
        replace H := Option.bind_eq_some_iff.mp H
        obtain ⟨t477, A1340, H⟩ := H
        try dsimp only at H
        have A134 := Aside0.mk A1340
        clear A1340
        by_cases c135 : t477 = true
        ·
         subst c135
         have H1 : (laws_FnExactDropBlob.j2 kj66 t455 (t475 != t420) t431 t456 t457 t438) = some r := by rw [if_pos rfl] at H; exact H
         clear H
         have H := H1
         clear H1
         have H' := Aside0.mk H
         clear H
         have hnb136 := NB476_402.out
         have hnc136 := NB402_476.out
         have hnb137 := NB476_421.out
         have hnc137 := NB421_476.out
         have hnb138 := NB476_430.out
         have hnc138 := NB430_476.out
         have hnb139 := NB476_440.out
         have hnc139 := NB440_476.out
         obtain ⟨hcz140_0, hcz140_1, hcz140_2, hcz140_3, hfz140_0, hfz140_1, hfz140_2, hfz140_3⟩ := c4 (w := w126) BK476
         have hnb141 := NB421_402.out
         have hnc141 := NB402_421.out
         have hnb142 := NB421_430.out
         have hnc142 := NB430_421.out
         have hnb143 := NB421_440.out
         have hnc143 := NB440_421.out
         obtain ⟨hcz144_0, hcz144_1, hcz144_2, hcz144_3, hfz144_0, hfz144_1, hfz144_2, hfz144_3⟩ := c4 (w := w126) BK421
         go_wp2_with (first | ((with_reducible refine gC 19 rfl ?_); refine gL 89 Try.func19 #[.agg #[.int .i64 t467, .slice Ao132 t468.length co132, .slice Ao133 t471.length co133, .int .i64 t474], .agg #[.int .i64 t412, .slice Ao26 t413.length co26, .slice Ao27 t416.length co27, .int .i64 t419]] ?_; (with_reducible refine (laws_eqStore.calls kj66 t467 _ _ t468 _ _ t471 t474 t412 _ _ t413 _ _ t416 t419 true _ ?_ ?_ ?_ ?_ ?_ ?_ ?_ ?_ A134.out).mono ?_); exact zq287; exact (Kd.R_reads' HO470.out).2.1; exact zq288; exact (Kd.R_reads' HO473.out).2.1; exact zq289; exact zq151; exact zq290; exact zq153; rintro e w145 ⟨rfl, hb⟩; refine ⟨_, rfl, ?_⟩; replace HO_422001 := rB zq163 hb; replace HO_422002 := rB zq164 hb; replace HO_431001 := rB zq165 hb; replace HO_431002 := rB zq166 hb; replace HO_441001 := rB zq167 hb; replace HO_441002 := rB zq168 hb; replace HO462 := rB zq169 hb; replace HO465 := rB zq170 hb; replace HO470 := rB zq161 hb; replace HO473 := rB zq162 hb; replace BK402 := bF BK402 zq171 hb; replace BK421 := bF BK421 zq172 hb; replace BK430 := bF BK430 zq173 hb; replace BK440 := bF BK440 zq174 hb; replace BK476 := bB (g := gb476) (o := .cells #[.int .i64 t467, .slice Ao132 t468.length co132, .slice Ao133 t471.length co133, .int .i64 t474] 31 (0, 0)) zq175 hb; replace HB := sB zq176 hb; clear hb))
         go_meet
         case rel => exact ⟨_, ((t475 != t420)), zq6, H', ⟨zq177⟩, ⟨zq178⟩, ⟨zq179⟩, ⟨zq180⟩, ⟨zq181⟩, ⟨zq182⟩, ⟨zq183⟩, ⟨zq184⟩, ⟨zq185⟩, ⟨zq186⟩, ⟨zq187⟩, ⟨zq188⟩, ⟨zq189⟩, ⟨zq190⟩, ⟨zq176⟩⟩
        replace c135 := Bool.eq_false_iff.mpr c135
        subst c135
        have H1 : (laws_FnExactDropBlob.j2 kj66 t455 true t431 t456 t457 t438) = some r := by rw [if_neg (show ¬ (false = true) by decide)] at H; exact H
        clear H
        have H := H1
        clear H1
        have H' := Aside0.mk H
        clear H
        have hnb146 := NB476_402.out
        have hnc146 := NB402_476.out
        have hnb147 := NB476_421.out
        have hnc147 := NB421_476.out
        have hnb148 := NB476_430.out
        have hnc148 := NB430_476.out
        have hnb149 := NB476_440.out
        have hnc149 := NB440_476.out
        obtain ⟨hcz150_0, hcz150_1, hcz150_2, hcz150_3, hfz150_0, hfz150_1, hfz150_2, hfz150_3⟩ := c4 (w := w126) BK476
        have hnb151 := NB421_402.out
        have hnc151 := NB402_421.out
        have hnb152 := NB421_430.out
        have hnc152 := NB430_421.out
        have hnb153 := NB421_440.out
        have hnc153 := NB440_421.out
        obtain ⟨hcz154_0, hcz154_1, hcz154_2, hcz154_3, hfz154_0, hfz154_1, hfz154_2, hfz154_3⟩ := c4 (w := w126) BK421
        go_wp2_with (first | ((with_reducible refine gC 19 rfl ?_); refine gL 89 Try.func19 #[.agg #[.int .i64 t467, .slice Ao132 t468.length co132, .slice Ao133 t471.length co133, .int .i64 t474], .agg #[.int .i64 t412, .slice Ao26 t413.length co26, .slice Ao27 t416.length co27, .int .i64 t419]] ?_; (with_reducible refine (laws_eqStore.calls kj66 t467 _ _ t468 _ _ t471 t474 t412 _ _ t413 _ _ t416 t419 false _ ?_ ?_ ?_ ?_ ?_ ?_ ?_ ?_ A134.out).mono ?_); exact zq287; exact (Kd.R_reads' HO470.out).2.1; exact zq288; exact (Kd.R_reads' HO473.out).2.1; exact zq289; exact zq151; exact zq290; exact zq153; rintro e w155 ⟨rfl, hb⟩; refine ⟨_, rfl, ?_⟩; replace HO_422001 := rB zq163 hb; replace HO_422002 := rB zq164 hb; replace HO_431001 := rB zq165 hb; replace HO_431002 := rB zq166 hb; replace HO_441001 := rB zq167 hb; replace HO_441002 := rB zq168 hb; replace HO462 := rB zq169 hb; replace HO465 := rB zq170 hb; replace HO470 := rB zq161 hb; replace HO473 := rB zq162 hb; replace BK402 := bF BK402 zq171 hb; replace BK421 := bF BK421 zq172 hb; replace BK430 := bF BK430 zq173 hb; replace BK440 := bF BK440 zq174 hb; replace BK476 := bB (g := gb476) (o := .cells #[.int .i64 t467, .slice Ao132 t468.length co132, .slice Ao133 t471.length co133, .int .i64 t474] 31 (0, 0)) zq175 hb; replace HB := sB zq176 hb; clear hb))
        go_meet
        case rel => exact ⟨_, (true), zq6, H', ⟨zq177⟩, ⟨zq178⟩, ⟨zq179⟩, ⟨zq180⟩, ⟨zq181⟩, ⟨zq182⟩, ⟨zq183⟩, ⟨zq184⟩, ⟨zq185⟩, ⟨zq186⟩, ⟨zq187⟩, ⟨zq188⟩, ⟨zq189⟩, ⟨zq190⟩, ⟨zq176⟩⟩
       case rest =>
        clear HC111
        try clear c1
        try clear c2
        try clear p2
        try clear c3
        try clear c3b0
        try clear c3b1
        try clear c4
        try clear c5
        try clear c6
        try clear c6b0
        try clear c7
        try clear c8
        try clear c9
        try clear c10
        try clear c11
        try clear c12
        try clear c13
        try clear c14
        try clear c15
        try clear c17
        try clear c19
        try clear c24
        try clear c27
        try clear c31
        try clear c32
        try clear c37
        try clear c38
        try clear c39
        try clear c40
        try clear c45
        try clear c46
        try clear c47
        try clear c48
        try clear c50
        try clear c51
        try clear c54
        try clear c55
        try clear c56
        try clear c58
        try clear c59
        try clear c62
        try clear c65
        try clear c73
        try clear c74
        try clear c75
        try clear c78
        try clear c78b0
        try clear c80
        try clear c81
        try clear c82
        try clear c83
        try clear c85
        try clear c86
        try clear c89
        try clear c90
        try clear c91
        try clear c93
        try clear c94
        try clear c97
        try clear c100
        try clear c100b0
        try clear c101
        try clear c102
        try clear c103
        try clear c108
        try clear c108b0
        try clear c108b1
        try clear c112
        try clear c113
        try clear c114
        try clear c119
        try clear c120
        try clear c127
        try clear c128
        try clear c129
        try clear c130
        try clear c135
        try clear c136
        try clear c137
        try clear c138
        try clear c139
        try clear c141
        try clear c142
        try clear c143
        try clear c146
        try clear c147
        try clear c148
        try clear c149
        try clear c151
        try clear c152
        try clear c153
        try clear hcz104_0
        try clear hcz104_1
        try clear hcz104_2
        try clear hcz104_3
        try clear hcz106_0
        try clear hcz106_1
        try clear hcz106_2
        try clear hcz106_3
        try clear hcz115_0
        try clear hcz115_1
        try clear hcz115_2
        try clear hcz115_3
        try clear hcz117_0
        try clear hcz117_1
        try clear hcz117_2
        try clear hcz117_3
        try clear hcz121_0
        try clear hcz121_1
        try clear hcz121_2
        try clear hcz121_3
        try clear hcz131_0
        try clear hcz131_1
        try clear hcz131_2
        try clear hcz131_3
        try clear hcz140_0
        try clear hcz140_1
        try clear hcz140_2
        try clear hcz140_3
        try clear hcz144_0
        try clear hcz144_1
        try clear hcz144_2
        try clear hcz144_3
        try clear hcz150_0
        try clear hcz150_1
        try clear hcz150_2
        try clear hcz150_3
        try clear hcz154_0
        try clear hcz154_1
        try clear hcz154_2
        try clear hcz154_3
        try clear hcz16_0
        try clear hcz16_1
        try clear hcz16_2
        try clear hcz16_3
        try clear hcz18_0
        try clear hcz18_1
        try clear hcz18_2
        try clear hcz18_3
        try clear hcz25_0
        try clear hcz25_1
        try clear hcz25_2
        try clear hcz25_3
        try clear hcz28_0
        try clear hcz28_1
        try clear hcz28_2
        try clear hcz28_3
        try clear hcz33_0
        try clear hcz33_1
        try clear hcz33_2
        try clear hcz33_3
        try clear hcz41_0
        try clear hcz41_1
        try clear hcz41_2
        try clear hcz41_3
        try clear hcz49_0
        try clear hcz49_1
        try clear hcz49_2
        try clear hcz49_3
        try clear hcz52_0
        try clear hcz52_1
        try clear hcz52_2
        try clear hcz52_3
        try clear hcz57_0
        try clear hcz57_1
        try clear hcz57_2
        try clear hcz57_3
        try clear hcz60_0
        try clear hcz60_1
        try clear hcz60_2
        try clear hcz60_3
        try clear hcz76_0
        try clear hcz76_1
        try clear hcz76_2
        try clear hcz76_3
        try clear hcz84_0
        try clear hcz84_1
        try clear hcz84_2
        try clear hcz84_3
        try clear hcz87_0
        try clear hcz87_1
        try clear hcz87_2
        try clear hcz87_3
        try clear hcz8_0
        try clear hcz8_1
        try clear hcz8_2
        try clear hcz8_3
        try clear hcz92_0
        try clear hcz92_1
        try clear hcz92_2
        try clear hcz92_3
        try clear hcz95_0
        try clear hcz95_1
        try clear hcz95_2
        try clear hcz95_3
        try clear hfz104_0
        try clear hfz104_1
        try clear hfz104_2
        try clear hfz104_3
        try clear hfz106_0
        try clear hfz106_1
        try clear hfz106_2
        try clear hfz106_3
        try clear hfz115_0
        try clear hfz115_1
        try clear hfz115_2
        try clear hfz115_3
        try clear hfz117_0
        try clear hfz117_1
        try clear hfz117_2
        try clear hfz117_3
        try clear hfz121_0
        try clear hfz121_1
        try clear hfz121_2
        try clear hfz121_3
        try clear hfz131_0
        try clear hfz131_1
        try clear hfz131_2
        try clear hfz131_3
        try clear hfz140_0
        try clear hfz140_1
        try clear hfz140_2
        try clear hfz140_3
        try clear hfz144_0
        try clear hfz144_1
        try clear hfz144_2
        try clear hfz144_3
        try clear hfz150_0
        try clear hfz150_1
        try clear hfz150_2
        try clear hfz150_3
        try clear hfz154_0
        try clear hfz154_1
        try clear hfz154_2
        try clear hfz154_3
        try clear hfz16_0
        try clear hfz16_1
        try clear hfz16_2
        try clear hfz16_3
        try clear hfz18_0
        try clear hfz18_1
        try clear hfz18_2
        try clear hfz18_3
        try clear hfz25_0
        try clear hfz25_1
        try clear hfz25_2
        try clear hfz25_3
        try clear hfz28_0
        try clear hfz28_1
        try clear hfz28_2
        try clear hfz28_3
        try clear hfz33_0
        try clear hfz33_1
        try clear hfz33_2
        try clear hfz33_3
        try clear hfz41_0
        try clear hfz41_1
        try clear hfz41_2
        try clear hfz41_3
        try clear hfz49_0
        try clear hfz49_1
        try clear hfz49_2
        try clear hfz49_3
        try clear hfz52_0
        try clear hfz52_1
        try clear hfz52_2
        try clear hfz52_3
        try clear hfz57_0
        try clear hfz57_1
        try clear hfz57_2
        try clear hfz57_3
        try clear hfz60_0
        try clear hfz60_1
        try clear hfz60_2
        try clear hfz60_3
        try clear hfz76_0
        try clear hfz76_1
        try clear hfz76_2
        try clear hfz76_3
        try clear hfz84_0
        try clear hfz84_1
        try clear hfz84_2
        try clear hfz84_3
        try clear hfz87_0
        try clear hfz87_1
        try clear hfz87_2
        try clear hfz87_3
        try clear hfz8_0
        try clear hfz8_1
        try clear hfz8_2
        try clear hfz8_3
        try clear hfz92_0
        try clear hfz92_1
        try clear hfz92_2
        try clear hfz92_3
        try clear hfz95_0
        try clear hfz95_1
        try clear hfz95_2
        try clear hfz95_3
        try clear p2
        obtain ⟨kq, x95_110, rfl, HA, HJ110, HO_422001, HO_422002, HO_431001, HO_431002, HO_441001, HO_441002, HO_477001, HO_477002, BK402, BK421, BK430, BK440, BK476, HB⟩ := hcut
        have hl441001_110 := (Kd.R_reads' HO_441001.out).1
        rw [hl441001_110] at HO_441001
        (try simp only [hl441001_110])
        (try simp only [hl441001_110] at BK402)
        (try simp only [hl441001_110] at BK421)
        (try simp only [hl441001_110] at BK430)
        (try simp only [hl441001_110] at BK440)
        (try simp only [hl441001_110] at BK476)
        (try simp only [hl441001_110] at HO_422001)
        (try simp only [hl441001_110] at HO_422002)
        (try simp only [hl441001_110] at HO_431001)
        (try simp only [hl441001_110] at HO_431002)
        (try simp only [hl441001_110] at HO_441002)
        (try simp only [hl441001_110] at HO_477001)
        (try simp only [hl441001_110] at HO_477002)
        have hl441002_110 := (Kd.R_reads' HO_441002.out).1
        rw [hl441002_110] at HO_441002
        (try simp only [hl441002_110])
        (try simp only [hl441002_110] at BK402)
        (try simp only [hl441002_110] at BK421)
        (try simp only [hl441002_110] at BK430)
        (try simp only [hl441002_110] at BK440)
        (try simp only [hl441002_110] at BK476)
        (try simp only [hl441002_110] at HO_422001)
        (try simp only [hl441002_110] at HO_422002)
        (try simp only [hl441002_110] at HO_431001)
        (try simp only [hl441002_110] at HO_431002)
        (try simp only [hl441002_110] at HO_441001)
        (try simp only [hl441002_110] at HO_477001)
        (try simp only [hl441002_110] at HO_477002)
        cases kq with
        | zero => exact absurd HA.out (by simp [laws_FnExactDropBlob.j2])
        | succ kj110 =>
         have H := HA.out
         clear HA
         simp only [laws_FnExactDropBlob.j2] at H
         by_cases c156 : x95_110 = true
         ·
          subst c156
          have H1 : (some false) = some r := by rw [if_pos rfl] at H; exact H
          clear H
          have H := H1
          clear H1
          obtain rfl := Option.some.inj H
          go_wp2
          go_ret
          exact ⟨zq4, zq176⟩
         replace c156 := Bool.eq_false_iff.mpr c156
         subst c156
         have H1 : ((laws_heldStore.f kj110 t431 t456 t457 t438 1).bind fun t478 => (if t478 < 0 then (some false) else (if t478 = t455 then (some true) else (some false)))) = some r := by rw [if_neg (show ¬ (false = true) by decide)] at H; exact H
         clear H
         have H := H1
         clear H1
         replace H := Option.bind_eq_some_iff.mp H
         obtain ⟨t478, A1570, H⟩ := H
         try dsimp only at H
         have A157 := Aside0.mk A1570
         clear A1570
         by_cases c158 : t478 < 0
         ·
          rw [if_pos c158] at H
          have c158b0 := decide_eq_true c158
          clear c158
          obtain rfl := Option.some.inj H
          have hnb159 := NB440_402.out
          have hnc159 := NB402_440.out
          have hnb160 := NB440_421.out
          have hnc160 := NB421_440.out
          have hnb161 := NB440_430.out
          have hnc161 := NB430_440.out
          have hnb162 := NB440_476.out
          have hnc162 := NB476_440.out
          obtain ⟨hcz163_0, hcz163_1, hcz163_2, hcz163_3, hfz163_0, hfz163_1, hfz163_2, hfz163_3⟩ := c4 (w := wc) BK440
          go_wp2_with (first | ((with_reducible refine gC 32 rfl ?_); refine gL 98 Try.func32 #[.agg #[.int .i64 t431, .slice Ao42 t456.length co42, .slice Ao43 t457.length co43, .int .i64 t438], .int .i64 1] ?_; (with_reducible refine (laws_heldStore.calls kj110 t431 _ _ t456 _ _ t457 t438 1 t478 _ ?_ ?_ ?_ ?_ A157.out).mono ?_); exact zq146; exact zq147; exact zq148; exact zq149; rintro e w164 ⟨rfl, hb⟩; refine ⟨_, rfl, ?_⟩; replace HO_422001 := rB zq123 hb; replace HO_422002 := rB zq124 hb; replace HO_431001 := rB zq125 hb; replace HO_431002 := rB zq126 hb; replace HO_441001 := rB zq127 hb; replace HO_441002 := rB zq128 hb; replace HO_477001 := rB zq191 hb; replace HO_477002 := rB zq192 hb; replace BK402 := bF BK402 zq82 hb; replace BK421 := bF BK421 zq94 hb; replace BK430 := bF BK430 zq102 hb; replace BK440 := bF BK440 zq122 hb; replace BK476 := bF BK476 zq193 hb; replace HB := sB zq176 hb; clear hb))
          go_ret
          exact ⟨zq4, zq176⟩
         rw [if_neg c158] at H
         have c158b0 := decide_eq_false c158
         clear c158
         by_cases c165 : t478 = t455
         ·
          rw [if_pos c165] at H
          have c165b0 : (t478 == t455) = true := beq_iff_eq.mpr c165
          have c165b1 : (t478 != t455) = false := bne_eq_false_iff_eq.mpr c165
          clear c165
          obtain rfl := Option.some.inj H
          have hnb166 := NB440_402.out
          have hnc166 := NB402_440.out
          have hnb167 := NB440_421.out
          have hnc167 := NB421_440.out
          have hnb168 := NB440_430.out
          have hnc168 := NB430_440.out
          have hnb169 := NB440_476.out
          have hnc169 := NB476_440.out
          obtain ⟨hcz170_0, hcz170_1, hcz170_2, hcz170_3, hfz170_0, hfz170_1, hfz170_2, hfz170_3⟩ := c4 (w := wc) BK440
          go_wp2_with (first | ((with_reducible refine gC 32 rfl ?_); refine gL 98 Try.func32 #[.agg #[.int .i64 t431, .slice Ao42 t456.length co42, .slice Ao43 t457.length co43, .int .i64 t438], .int .i64 1] ?_; (with_reducible refine (laws_heldStore.calls kj110 t431 _ _ t456 _ _ t457 t438 1 t478 _ ?_ ?_ ?_ ?_ A157.out).mono ?_); exact zq146; exact zq147; exact zq148; exact zq149; rintro e w171 ⟨rfl, hb⟩; refine ⟨_, rfl, ?_⟩; replace HO_422001 := rB zq123 hb; replace HO_422002 := rB zq124 hb; replace HO_431001 := rB zq125 hb; replace HO_431002 := rB zq126 hb; replace HO_441001 := rB zq127 hb; replace HO_441002 := rB zq128 hb; replace HO_477001 := rB zq191 hb; replace HO_477002 := rB zq192 hb; replace BK402 := bF BK402 zq82 hb; replace BK421 := bF BK421 zq94 hb; replace BK430 := bF BK430 zq102 hb; replace BK440 := bF BK440 zq122 hb; replace BK476 := bF BK476 zq193 hb; replace HB := sB zq176 hb; clear hb))
          go_ret
          exact ⟨zq4, zq176⟩
         rw [if_neg c165] at H
         have c165b0 : (t478 == t455) = false := beq_eq_false_iff_ne.mpr c165
         have c165b1 : (t478 != t455) = true := bne_iff_ne.mpr c165
         obtain rfl := Option.some.inj H
         have hnb172 := NB440_402.out
         have hnc172 := NB402_440.out
         have hnb173 := NB440_421.out
         have hnc173 := NB421_440.out
         have hnb174 := NB440_430.out
         have hnc174 := NB430_440.out
         have hnb175 := NB440_476.out
         have hnc175 := NB476_440.out
         obtain ⟨hcz176_0, hcz176_1, hcz176_2, hcz176_3, hfz176_0, hfz176_1, hfz176_2, hfz176_3⟩ := c4 (w := wc) BK440
         go_wp2_with (first | ((with_reducible refine gC 32 rfl ?_); refine gL 98 Try.func32 #[.agg #[.int .i64 t431, .slice Ao42 t456.length co42, .slice Ao43 t457.length co43, .int .i64 t438], .int .i64 1] ?_; (with_reducible refine (laws_heldStore.calls kj110 t431 _ _ t456 _ _ t457 t438 1 t478 _ ?_ ?_ ?_ ?_ A157.out).mono ?_); exact zq146; exact zq147; exact zq148; exact zq149; rintro e w177 ⟨rfl, hb⟩; refine ⟨_, rfl, ?_⟩; replace HO_422001 := rB zq123 hb; replace HO_422002 := rB zq124 hb; replace HO_431001 := rB zq125 hb; replace HO_431002 := rB zq126 hb; replace HO_441001 := rB zq127 hb; replace HO_441002 := rB zq128 hb; replace HO_477001 := rB zq191 hb; replace HO_477002 := rB zq192 hb; replace BK402 := bF BK402 zq82 hb; replace BK421 := bF BK421 zq94 hb; replace BK430 := bF BK430 zq102 hb; replace BK440 := bF BK440 zq122 hb; replace BK476 := bF BK476 zq193 hb; replace HB := sB zq176 hb; clear hb))
         go_ret
         exact ⟨zq4, zq176⟩
      rw [if_neg c108] at H
      have c108b0 : (t458 == t455) = false := beq_eq_false_iff_ne.mpr c108
      have c108b1 : (t458 != t455) = true := bne_iff_ne.mpr c108
      obtain rfl := Option.some.inj H
      have hnb178 := NB440_402.out
      have hnc178 := NB402_440.out
      have hnb179 := NB440_421.out
      have hnc179 := NB421_440.out
      have hnb180 := NB440_430.out
      have hnc180 := NB430_440.out
      obtain ⟨hcz181_0, hcz181_1, hcz181_2, hcz181_3, hfz181_0, hfz181_1, hfz181_2, hfz181_3⟩ := c4 (w := wc) BK440
      go_wp2_with (first | ((with_reducible refine gC 27 rfl ?_); refine gL 71 Try.func27 #[.agg #[.int .i64 t431, .slice Ao42 t432.length co42, .slice Ao43 t435.length co43, .int .i64 t438], .int .i64 1] ?_; (with_reducible refine (laws_markStore.calls kj66 t431 (fun k_ => some k_ = (.slice Ao42 t432.length co42 : Value).ownBlock) (.slice Ao42 t432.length co42) t432 (fun k_ => some k_ = (.slice Ao43 t435.length co43 : Value).ownBlock) (.slice Ao43 t435.length co43) t435 t438 1 t455 t456 t457 w _ ?_ ?_ ?_ A98.out).mono ?_); exact zq115; exact zq154; exact zq155; rintro e w182 ⟨rfl, hy0, hy1, hb, hkp⟩; refine ⟨_, rfl, ?_⟩; replace HO_422001 := Aside0.mk (Kd.R_mono (ok' := fun k_ => some k_ ≠ (.slice Ao34 t452.length co34 : Value).ownBlock ∧ some k_ ≠ (.slice Ao42 t432.length co42 : Value).ownBlock) (Kd.R_keptB ((Kd.R_apart' HO_422001.out (Kd.R_typed HO_441002.out) (by decide))) hkp (fun k_ hk_ hs_ => Or.elim hs_ (fun e_ => by first | exact hk_.1.2 e_ | exact hk_.1.1 e_ | exact hk_.1.1.1 e_ | exact hk_.1.1.2 e_ | exact hk_.1.2.1 e_ | exact hk_.1.2.2 e_ | exact hk_.2 e_ | simp_all) (fun e_ => by first | exact hk_.2 e_ | exact hk_.1.1 e_ | exact hk_.1.2 e_ | exact hk_.1.1.1 e_ | exact hk_.1.1.2 e_ | exact hk_.1.2.1 e_ | exact hk_.1.2.2 e_ | simp_all))) (fun k_ hk_ => by first | exact ⟨hk_.1.1.1, hk_.1.1.2⟩ | simp_all)); replace HO_422002 := Aside0.mk (Kd.R_mono (ok' := fun k_ => some k_ ≠ (.slice Ao35 t453.length co35 : Value).ownBlock ∧ some k_ ≠ (.slice Ao43 t435.length co43 : Value).ownBlock) (Kd.R_keptB ((Kd.R_apart' HO_422002.out (Kd.R_typed HO_441001.out) (by decide))) hkp (fun k_ hk_ hs_ => Or.elim hs_ (fun e_ => by first | exact hk_.2 e_ | exact hk_.1.1 e_ | exact hk_.1.2 e_ | exact hk_.1.1.1 e_ | exact hk_.1.1.2 e_ | exact hk_.1.2.1 e_ | exact hk_.1.2.2 e_ | simp_all) (fun e_ => by first | exact hk_.1.2 e_ | exact hk_.1.1 e_ | exact hk_.1.1.1 e_ | exact hk_.1.1.2 e_ | exact hk_.1.2.1 e_ | exact hk_.1.2.2 e_ | exact hk_.2 e_ | simp_all))) (fun k_ hk_ => by first | exact ⟨hk_.1.1.1, hk_.1.1.2⟩ | simp_all)); replace HO_431001 := Aside0.mk (Kd.R_mono (ok' := fun k_ => some k_ ≠ (.slice Ao26 t413.length co26 : Value).ownBlock ∧ some k_ ≠ (.slice Ao42 t432.length co42 : Value).ownBlock) (Kd.R_keptB ((Kd.R_apart' HO_431001.out (Kd.R_typed HO_441002.out) (by decide))) hkp (fun k_ hk_ hs_ => Or.elim hs_ (fun e_ => by first | exact hk_.1.2 e_ | exact hk_.1.1 e_ | exact hk_.1.1.1 e_ | exact hk_.1.1.2 e_ | exact hk_.1.2.1 e_ | exact hk_.1.2.2 e_ | exact hk_.2 e_ | simp_all) (fun e_ => by first | exact hk_.2 e_ | exact hk_.1.1 e_ | exact hk_.1.2 e_ | exact hk_.1.1.1 e_ | exact hk_.1.1.2 e_ | exact hk_.1.2.1 e_ | exact hk_.1.2.2 e_ | simp_all))) (fun k_ hk_ => by first | exact ⟨hk_.1.1.1, hk_.1.1.2⟩ | simp_all)); replace HO_431002 := Aside0.mk (Kd.R_mono (ok' := fun k_ => some k_ ≠ (.slice Ao27 t416.length co27 : Value).ownBlock ∧ some k_ ≠ (.slice Ao43 t435.length co43 : Value).ownBlock) (Kd.R_keptB ((Kd.R_apart' HO_431002.out (Kd.R_typed HO_441001.out) (by decide))) hkp (fun k_ hk_ hs_ => Or.elim hs_ (fun e_ => by first | exact hk_.2 e_ | exact hk_.1.1 e_ | exact hk_.1.2 e_ | exact hk_.1.1.1 e_ | exact hk_.1.1.2 e_ | exact hk_.1.2.1 e_ | exact hk_.1.2.2 e_ | simp_all) (fun e_ => by first | exact hk_.1.2 e_ | exact hk_.1.1 e_ | exact hk_.1.1.1 e_ | exact hk_.1.1.2 e_ | exact hk_.1.2.1 e_ | exact hk_.1.2.2 e_ | exact hk_.2 e_ | simp_all))) (fun k_ hk_ => by first | exact ⟨hk_.1.1.1, hk_.1.1.2⟩ | simp_all)); replace BK402 := Aside0.mk (blk_kept zq135 hkp (fun hs_ => Or.elim hs_ (fun e_ => (fun e_ => (Kd.R_ne HO_441001.out BK402.out (by decide)) e_) e_) (fun e_ => (fun e_ => (Kd.R_ne HO_441002.out BK402.out (by decide)) e_) e_))); replace BK421 := Aside0.mk (blk_kept zq136 hkp (fun hs_ => Or.elim hs_ (fun e_ => (fun e_ => (Kd.R_ne HO_441001.out BK421.out (by decide)) e_) e_) (fun e_ => (fun e_ => (Kd.R_ne HO_441002.out BK421.out (by decide)) e_) e_))); replace BK430 := Aside0.mk (blk_kept zq137 hkp (fun hs_ => Or.elim hs_ (fun e_ => (fun e_ => (Kd.R_ne HO_441001.out BK430.out (by decide)) e_) e_) (fun e_ => (fun e_ => (Kd.R_ne HO_441002.out BK430.out (by decide)) e_) e_))); replace BK440 := Aside0.mk (blk_kept zq138 hkp (fun hs_ => Or.elim hs_ (fun e_ => (fun e_ => (Kd.R_ne HO_441001.out BK440.out (by decide)) e_) e_) (fun e_ => (fun e_ => (Kd.R_ne HO_441002.out BK440.out (by decide)) e_) e_))); replace HO_441001 := Aside0.mk (Kd.R_reok rfl hy0 (fun k_ e_ => HO_441001.out.1 k_ e_)); replace HO_441002 := Aside0.mk (Kd.R_reok rfl hy1 (fun k_ e_ => HO_441002.out.1 k_ e_)); replace HB := Aside0.mk hb; clear hb; (try clear hkp); (try clear hy0); (try clear hy1); obtain ⟨hcz183_0, hcz183_1, hcz183_2, hcz183_3, hfz183_0, hfz183_1, hfz183_2, hfz183_3⟩ := c4 (w := w182) BK440) | ((with_reducible refine gC 32 rfl ?_); refine gL 74 Try.func32 #[.agg #[.int .i64 t431, .slice Ao42 t456.length co42, .slice Ao43 t457.length co43, .int .i64 t438], .int .i64 1] ?_ (hargs := by (try simp only [List.map_toArray, List.map_cons, List.map_nil]); first | done | (rw [show t456.length = t432.length from (Kd.R_reads' HO_441001.out).1.symm, show t457.length = t435.length from (Kd.R_reads' HO_441002.out).1.symm] <;> rfl) | rfl | (simp only [List.length_drop, List.length_take]; rfl)); (with_reducible refine (laws_heldStore.calls kj66 t431 _ _ t456 _ _ t457 t438 1 t458 _ ?_ ?_ ?_ ?_ A99.out).mono ?_); exact zq146; exact zq157; exact zq148; exact zq158; rintro e w184 ⟨rfl, hb⟩; refine ⟨_, rfl, ?_⟩; replace HO_422001 := rB zq123 hb; replace HO_422002 := rB zq124 hb; replace HO_431001 := rB zq125 hb; replace HO_431002 := rB zq126 hb; replace HO_441001 := rB zq127 hb; replace HO_441002 := rB zq128 hb; replace BK402 := bF BK402 zq82 hb; replace BK421 := bF BK421 zq94 hb; replace BK430 := bF BK430 zq102 hb; replace BK440 := bF BK440 zq122 hb; replace HB := sB zq115 hb; clear hb))
      go_ret
      exact ⟨zq4, zq115⟩
   replace c65 := Bool.eq_false_iff.mpr c65
   subst c65
   have H1 : (some false) = some r := by rw [if_neg (show ¬ (false = true) by decide)] at H; exact H
   clear H
   have H := H1
   clear H1
   obtain rfl := Option.some.inj H
   try go_wp2
   replace HO_422001 := Aside0.mk (Kd.R_drew HO_422001.out)
   replace HO_422002 := Aside0.mk (Kd.R_drew HO_422002.out)
   replace HO_431001 := Aside0.mk (Kd.R_drew HO_431001.out)
   replace HO_431002 := Aside0.mk (Kd.R_drew HO_431002.out)
   replace HO_441001 := Aside0.mk (Kd.R_drew HO_441001.out)
   replace HO_441002 := Aside0.mk (Kd.R_drew HO_441002.out)
   replace BK402 := Aside0.mk (blk_drew BK402.out)
   replace BK421 := Aside0.mk (blk_drew BK421.out)
   replace BK430 := Aside0.mk (blk_drew BK430.out)
   replace BK440 := Aside0.mk (blk_drew BK440.out)
   replace HB := Aside0.mk (below_drew1 HB.out)
   refine start_ (n := 5) (S := fun w' => w'.cell? ⟨gb430, 0, none⟩ = some (.int .i64 t422) ∧ w'.cell? ⟨gb430, 1, none⟩ = some (.slice Ao34 t423.length co34) ∧ w'.cell? ⟨gb430, 2, none⟩ = some (.slice Ao35 t426.length co35) ∧ w'.cell? ⟨gb430, 3, none⟩ = some (.int .i64 t429) ∧ w'.cell? ⟨gb402, 0, none⟩ = some (.int .i64 a0_0) ∧ w'.cell? ⟨gb402, 1, none⟩ = some (.slice A0_1 l0_1.length c0_1) ∧ w'.cell? ⟨gb402, 2, none⟩ = some (.slice A0_2 l0_2.length c0_2) ∧ w'.cell? ⟨gb402, 3, none⟩ = some (.int .i64 a0_3)) (ds := []) #[false, false, false, false, false] (by kernel_rfl) rfl rfl ⟨(blk_cell BK430.out 0).trans rfl, (blk_cell BK430.out 1).trans rfl, (blk_cell BK430.out 2).trans rfl, (blk_cell BK430.out 3).trans rfl, (blk_cell BK402.out 0).trans rfl, (blk_cell BK402.out 1).trans rfl, (blk_cell BK402.out 2).trans rfl, (blk_cell BK402.out 3).trans rfl⟩ (fun hHeld => ?_)
   generalize wc.drew = w185 at HO_422001 HO_422002 HO_431001 HO_431002 HO_441001 HO_441002 BK402 BK421 BK430 BK440 HB hHeld ⊢
   refine take_ (i := 0) (N := some 48) (v := ?_) (a' := ?_) #[true, false, false, false, false] rfl rfl (by kernel_rfl) (fun _ _ _ h => h) (Or.inl ⟨by rfl, ?_⟩) hHeld ?_ ?_
   rotate_left
   exact zq324
   rotate_left
   exact zq315
   refine take_ (i := 1) (N := some 49) (v := ?_) (a' := ?_) #[true, true, false, false, false] rfl rfl (by kernel_rfl) (fun _ _ _ h => h) (Or.inl ⟨by rfl, ?_⟩) hHeld ?_ ?_
   rotate_left
   exact zq324
   rotate_left
   exact zq315
   refine one_ (i := 2) (N := some 50) #[true, true, true, false, false] rfl rfl (by kernel_rfl) (by decide) (fun K hK => ?_)
   refine goes_ Try.func17 (by kernel_rfl) rfl #[.agg #[.int .i64 a0_0, .slice A0_1 l0_1.length c0_1, .slice A0_2 l0_2.length c0_2, .int .i64 a0_3]] (by rfl) rfl rfl zq8 ?_
   with_reducible refine (laws_toStore.calls kj13 a0_0 _ _ l0_1 _ _ l0_2 a0_3 t442 t443 t446 t449 _ ?side1 ?side2 ?side3 ?side4 A63.out).mono ?_
   (case side1 => exact zq11)
   (case side2 => exact zq12)
   (case side3 => exact zq15)
   (case side4 => exact zq16)
   rintro e w186 ⟨v444, v447, rfl, ho0, ho1, hb⟩
   refine ⟨_, rfl, ?_⟩
   have HO445 := Aside0.mk (Kd.R_lower (Kd.R_new' (Kd.R_new' (Kd.R_new' ho0 (Kd.R_lt zq123)) (Kd.R_lt zq125)) (Kd.R_lt zq127)) (below_size zq115))
   replace HO_422001 := Aside0.mk (Kd.R_elder' zq123 (Kd.R_base ho0) hb)
   replace HO_431001 := Aside0.mk (Kd.R_elder' zq125 (Kd.R_base ho0) hb)
   replace HO_441001 := Aside0.mk (Kd.R_elder' zq127 (Kd.R_base ho0) hb)
   have HO448 := Aside0.mk (Kd.R_lower (Kd.R_new' (Kd.R_new' (Kd.R_new' ho1 (Kd.R_lt zq124)) (Kd.R_lt zq126)) (Kd.R_lt zq128)) (below_size zq115))
   replace HO_422002 := Aside0.mk (Kd.R_elder' zq124 (Kd.R_base ho1) hb)
   replace HO_431002 := Aside0.mk (Kd.R_elder' zq126 (Kd.R_base ho1) hb)
   replace HO_441002 := Aside0.mk (Kd.R_elder' zq128 (Kd.R_base ho1) hb)
   replace BK402 := bF BK402 zq82 hb
   replace BK421 := bF BK421 zq94 hb
   replace BK430 := bF BK430 zq102 hb
   replace BK440 := bF BK440 zq122 hb
   replace HB := sB zq115 hb
   (try clear hb)
   (try clear hb2)
   (try clear hk)
   (try clear hi)
   (try clear ho0)
   (try clear ho1)
   obtain ⟨Ao187, co187, eo187⟩ := Kd.R_slice HO445.out
   (first | subst eo187 | (injection eo187 with f1_ f2_ f3_; have f4_ := f1_.symm; have f5_ := f3_.symm; clear f1_ f2_ f3_; subst f4_; subst f5_))
   obtain ⟨Ao188, co188, eo188⟩ := Kd.R_slice HO448.out
   (first | subst eo188 | (injection eo188 with f1_ f2_ f3_; have f4_ := f1_.symm; have f5_ := f3_.symm; clear f1_ f2_ f3_; subst f4_; subst f5_))
   refine hK.out _ _ ⟨(blk_cell BK430.out 0).trans rfl, (blk_cell BK430.out 1).trans rfl, (blk_cell BK430.out 2).trans rfl, (blk_cell BK430.out 3).trans rfl, (blk_cell BK402.out 0).trans rfl, (blk_cell BK402.out 1).trans rfl, (blk_cell BK402.out 2).trans rfl, (blk_cell BK402.out 3).trans rfl⟩ (fun hHeld => ?_)
   clear hK K
   refine norm_ (a' := ?_) ?_ ?_
   rotate_left
   ·
    show Act.put _ (some 50) _ = _
    simp only [Act.put, List.setIfInBounds_toArray, List.set_cons_zero, List.set_cons_succ, i64_w, i32_w]
    rfl
   refine one_ (i := 3) (N := some 51) #[true, true, true, true, false] rfl rfl (by kernel_rfl) (by decide) (fun K hK => ?_)
   refine goes_ Try.func19 (by kernel_rfl) rfl #[.agg #[.int .i64 t422, .slice Ao34 t423.length co34, .slice Ao35 t426.length co35, .int .i64 t429], .agg #[.int .i64 t442, .slice Ao187 t443.length co187, .slice Ao188 t446.length co188, .int .i64 t449]] (by rfl) rfl rfl zq8 ?_
   with_reducible refine (laws_eqStore.calls kj13 t422 _ _ t423 _ _ t426 t429 t442 _ _ t443 _ _ t446 t449 false _ ?side1 ?side2 ?side3 ?side4 ?side5 ?side6 ?side7 ?side8 A64.out).mono ?_
   (case side1 => exact zq129)
   (case side2 => exact (Kd.R_reads' HO_431001.out).2.1)
   (case side3 => exact zq130)
   (case side4 => exact (Kd.R_reads' HO_431002.out).2.1)
   (case side5 => exact zq131)
   (case side6 => exact (Kd.R_reads' HO445.out).2.1)
   (case side7 => exact zq132)
   (case side8 => exact (Kd.R_reads' HO448.out).2.1)
   rintro e w189 ⟨rfl, hb⟩
   refine ⟨_, rfl, ?_⟩
   replace HO_422001 := rB zq123 hb
   replace HO_422002 := rB zq124 hb
   replace HO_431001 := rB zq125 hb
   replace HO_431002 := rB zq126 hb
   replace HO_441001 := rB zq127 hb
   replace HO_441002 := rB zq128 hb
   replace HO445 := rB zq133 hb
   replace HO448 := rB zq134 hb
   replace BK402 := bF BK402 zq82 hb
   replace BK421 := bF BK421 zq94 hb
   replace BK430 := bF BK430 zq102 hb
   replace BK440 := bF BK440 zq122 hb
   replace HB := sB zq115 hb
   (try clear hb)
   (try clear hb2)
   (try clear hk)
   (try clear hi)
   refine hK.out _ _ ⟨(blk_cell BK430.out 0).trans rfl, (blk_cell BK430.out 1).trans rfl, (blk_cell BK430.out 2).trans rfl, (blk_cell BK430.out 3).trans rfl, (blk_cell BK402.out 0).trans rfl, (blk_cell BK402.out 1).trans rfl, (blk_cell BK402.out 2).trans rfl, (blk_cell BK402.out 3).trans rfl⟩ (fun hHeld => ?_)
   clear hK K
   refine norm_ (a' := ?_) ?_ ?_
   rotate_left
   exact zq328
   refine pure_ (i := 4) (N := some 52) (v := ?_) (a' := ?_) #[true, true, true, true, true] rfl rfl (by kernel_rfl) (fun _ _ _ h => h) (Or.inl ⟨by rfl, ?_⟩) ?_ ?_
   rotate_left
   exact zq314
   rotate_left
   exact zq315
   refine done_ (by kernel_rfl) ?_
   try go_wp2
   go_ret
   exact ⟨zq4, zq115⟩

/-- THE ONE PURE STATEMENT of laws_FnExactDropBlob. -/
def laws_FnExactDropBlob.Pure : Prop := ∀ (a0_0 : Int) (l0_1 : List (S95)) (l0_2 : List (S97)) (a0_3 : Int) (a1 : ByteArray), (Lit.int .i64 a0_0).wf = true → (l0_1.length ≤ maxLen ∧ ∀ y0_ ∈ l0_1, (y0_.f0.size ≤ maxLen ∧ y0_.f1.size ≤ maxLen)) → (l0_2.length ≤ maxLen ∧ ∀ y0_ ∈ l0_2, ((Lit.int .i64 y0_.f0).wf = true ∧ y0_.f1.size ≤ maxLen)) → (Lit.int .i64 a0_3).wf = true → a1.size ≤ 140737488351232 → ∃ k, laws_FnExactDropBlob.f k a0_0 l0_1 l0_2 a0_3 a1 = some true

end Go.Proofs.Ytacaeebjanglgaa.QFnExactDropBlob
