/- Written by wip/myprint.py of this repo (the kit's print, with additions of this session). -/
import Derived.Test.YtacaeebjanglgaaQFnExactChunkx0
import Derived.Test.YtacaeebjanglgaaQFnExactChunkx1
import Derived.Test.YtacaeebjanglgaaQFnExactChunkx3
import Derived.Test.YtacaeebjanglgaaQFnExactChunkx4
import Derived.Test.YtacaeebjanglgaaQFnExactChunkx5
import Derived.Test.YtacaeebjanglgaaQFnExactChunkx10
import Derived.Test.YtacaeebjanglgaaQFnExactChunkx14
set_option maxRecDepth 100000
namespace Go.Proofs.Ytacaeebjanglgaa.QFnExactChunk
open Go.RowKit Go.Proofs.YtacaeebjanglgaaW.PrintWords Go.Proofs.YtacaeebjanglgaaW.PrintLast Go.Proofs.YtacaeebjanglgaaW.PrintMore
attribute [local go_sem] max2_int min2_int max_two min_two max_three min_three max_four min_four   -- for this text's walks alone
set_option linter.unusedVariables false
set_option linter.unusedSimpArgs false

/-! ### laws_FnExactChunk: function 9 -/
mutual
def laws_FnExactChunk.j0 : Nat → Int → Int → ByteArray → Int → Int → Bool → Int → List (S95) → List (S97) → Int → Int → List (S66) → List (S68) → Int → Int → List (S66) → List (S68) → Int → Int → List (S66) → List (S68) → Int → Option (Bool)
 | 0, _, _, _, _, _, _, _, _, _, _, _, _, _, _, _, _, _, _, _, _, _, _ => none
 | k + 1, x1, x2, x3, x11, x14, x55, x407000, x407001, x407002, x407003, x426000, x426001, x426002, x426003, x435000, x435001, x435002, x435003, x445000, x445001, x445002, x445003 => if x55 = true then (some false) else ((laws_toStore.f k x407000 x407001 x407002 x407003).bind fun bt446 => ((laws_eqStore.f k x435000 x435001 x435002 x435003 bt446.1 bt446.2.1 bt446.2.2.1 bt446.2.2.2).bind fun t454 => (if t454 = true then ((laws_markStore.f k x435000 x435001 x435002 x435003 1).bind fun bt455 => (if bt455.1 < 0 then (laws_FnExactChunk.j1 k x1 x2 x3 x11 true x407000 x407001 x407002 x407003 x426000 x426001 x426002 x426003 x445000 x445001 x445002 x445003) else ((laws_eqStore.f k x445000 x445001 x445002 x445003 x426000 x426001 x426002 x426003).bind fun t458 => (if t458 = true then (laws_FnExactChunk.j1 k x1 x2 x3 x11 (x14 != x11) x407000 x407001 x407002 x407003 x426000 x426001 x426002 x426003 x445000 x445001 x445002 x445003) else (laws_FnExactChunk.j1 k x1 x2 x3 x11 true x407000 x407001 x407002 x407003 x426000 x426001 x426002 x426003 x445000 x445001 x445002 x445003))))) else (some false))))
def laws_FnExactChunk.j1 : Nat → Int → Int → ByteArray → Int → Bool → Int → List (S95) → List (S97) → Int → Int → List (S66) → List (S68) → Int → Int → List (S66) → List (S68) → Int → Option (Bool)
 | 0, _, _, _, _, _, _, _, _, _, _, _, _, _, _, _, _, _ => none
 | k + 1, x1, x2, x3, x11, x76, x407000, x407001, x407002, x407003, x426000, x426001, x426002, x426003, x445000, x445001, x445002, x445003 => if x76 = true then (some false) else ((laws_markStore.f k x445000 x445001 x445002 x445003 1).bind fun bt459 => ((laws_heldStore.f k x445000 bt459.2.1 bt459.2.2 x445003 1).bind fun t462 => (if t462 < 0 then (some false) else (if t462 = bt459.1 then ((laws_toStore.f k x407000 x407001 x407002 x407003).bind fun bt463 => ((impl_Chunk.f k bt463.1 bt463.2.1 bt463.2.2.1 bt463.2.2.2 x1 x2 x3).bind fun bt471 => ((laws_eqStore.f k bt471.1 bt471.2.1 bt471.2.2.1 bt471.2.2.2.1 x426000 x426001 x426002 x426003).bind fun t481 => (if t481 = true then (laws_FnExactChunk.j2 k bt459.1 (bt471.2.2.2.2 != x11) x445000 bt459.2.1 bt459.2.2 x445003) else (laws_FnExactChunk.j2 k bt459.1 true x445000 bt459.2.1 bt459.2.2 x445003))))) else (some false)))))
def laws_FnExactChunk.j2 : Nat → Int → Bool → Int → List (S66) → List (S68) → Int → Option (Bool)
 | 0, _, _, _, _, _, _ => none
 | k + 1, x16, x105, x445000, x445001, x445002, x445003 => if x105 = true then (some false) else ((laws_heldStore.f k x445000 x445001 x445002 x445003 1).bind fun t482 => (if t482 < 0 then (some false) else (if t482 = x16 then (some true) else (some false))))
end
def laws_FnExactChunk.f (k : Nat) (a0_0 : Int) (l0_1 : List (S95)) (l0_2 : List (S97)) (a0_3 : Int) (a1 : Int) (a2 : Int) (a3 : ByteArray) : Option (Bool) := if (a3.size : Int) > 1048576 then (some true) else ((laws_szStore.f k a0_0 l0_1 l0_2 a0_3 1048576).bind fun t407 => (if t407 < 0 then (some true) else ((laws_toStore.f k a0_0 l0_1 l0_2 a0_3).bind fun bt408 => ((spec_Chunk.f k bt408.1 bt408.2.1 bt408.2.2.1 bt408.2.2.2 a1 a2 a3).bind fun bt416 => ((laws_toStore.f k a0_0 l0_1 l0_2 a0_3).bind fun bt426 => ((impl_Chunk.f k bt426.1 bt426.2.1 bt426.2.2.1 bt426.2.2.2 a1 a2 a3).bind fun bt435 => ((laws_eqStore.f k bt435.1 bt435.2.1 bt435.2.2.1 bt435.2.2.2.1 bt416.1 bt416.2.1 bt416.2.2.1 bt416.2.2.2.1).bind fun t445 => (if t445 = true then (laws_FnExactChunk.j0 k a1 a2 a3 bt416.2.2.2.2 bt435.2.2.2.2 (bt435.2.2.2.2 != bt416.2.2.2.2) a0_0 l0_1 l0_2 a0_3 bt416.1 bt416.2.1 bt416.2.2.1 bt416.2.2.2.1 bt426.1 bt426.2.1 bt426.2.2.1 bt426.2.2.2 bt435.1 bt435.2.1 bt435.2.2.1 bt435.2.2.2.1) else (laws_FnExactChunk.j0 k a1 a2 a3 bt416.2.2.2.2 bt435.2.2.2.2 true a0_0 l0_1 l0_2 a0_3 bt416.1 bt416.2.1 bt416.2.2.1 bt416.2.2.2.1 bt426.1 bt426.2.1 bt426.2.2.1 bt426.2.2.2 bt435.1 bt435.2.1 bt435.2.2.1 bt435.2.2.2.1)))))))))
theorem laws_FnExactChunk.mono_l : ∀ k, (∀ y0 y1 y2 y3 y4 y5 y6 y7 y8 y9 y10 y11 y12 y13 y14 y15 y16 y17 y18 y19 y20 y21, LeO (laws_FnExactChunk.j0 k y0 y1 y2 y3 y4 y5 y6 y7 y8 y9 y10 y11 y12 y13 y14 y15 y16 y17 y18 y19 y20 y21) (laws_FnExactChunk.j0 (k + 1) y0 y1 y2 y3 y4 y5 y6 y7 y8 y9 y10 y11 y12 y13 y14 y15 y16 y17 y18 y19 y20 y21)) ∧ (∀ y0 y1 y2 y3 y4 y5 y6 y7 y8 y9 y10 y11 y12 y13 y14 y15 y16, LeO (laws_FnExactChunk.j1 k y0 y1 y2 y3 y4 y5 y6 y7 y8 y9 y10 y11 y12 y13 y14 y15 y16) (laws_FnExactChunk.j1 (k + 1) y0 y1 y2 y3 y4 y5 y6 y7 y8 y9 y10 y11 y12 y13 y14 y15 y16)) ∧ (∀ y0 y1 y2 y3 y4 y5, LeO (laws_FnExactChunk.j2 k y0 y1 y2 y3 y4 y5) (laws_FnExactChunk.j2 (k + 1) y0 y1 y2 y3 y4 y5))
 | 0 => ⟨fun _ _ _ _ _ _ _ _ _ _ _ _ _ _ _ _ _ _ _ _ _ _ r h => by simp [laws_FnExactChunk.j0] at h, fun _ _ _ _ _ _ _ _ _ _ _ _ _ _ _ _ _ r h => by simp [laws_FnExactChunk.j1] at h, fun _ _ _ _ _ _ r h => by simp [laws_FnExactChunk.j2] at h⟩
 | k + 1 => by
  obtain ⟨ih0, ih1, ih2⟩ := laws_FnExactChunk.mono_l k
  refine ⟨?_, ?_, ?_⟩
  ·
   intro y0 y1 y2 y3 y4 y5 y6 y7 y8 y9 y10 y11 y12 y13 y14 y15 y16 y17 y18 y19 y20 y21
   unfold laws_FnExactChunk.j0
   repeat' first
   | (with_reducible exact ih0 _ _ _ _ _ _ _ _ _ _ _ _ _ _ _ _ _ _ _ _ _ _)
   | (with_reducible exact ih1 _ _ _ _ _ _ _ _ _ _ _ _ _ _ _ _ _)
   | (with_reducible exact ih2 _ _ _ _ _ _)
   | (with_reducible exact impl_Chunk.mono _ _ _ _ _ _ _ _)
   | (with_reducible exact laws_eqStore.mono _ _ _ _ _ _ _ _ _)
   | (with_reducible exact laws_heldStore.mono _ _ _ _ _ _)
   | (with_reducible exact laws_markStore.mono _ _ _ _ _ _)
   | (with_reducible exact laws_szStore.mono _ _ _ _ _ _)
   | (with_reducible exact laws_toStore.mono _ _ _ _ _)
   | (with_reducible exact spec_Chunk.mono _ _ _ _ _ _ _ _)
   | (with_reducible exact LeO.refl _)
   | (with_reducible exact LeO.none _)
   | (with_reducible refine LeO.ite ?_ ?_)
   | (with_reducible refine LeO.bind ?_ (fun _ => ?_))
   | exact LeO.none _
   | refine LeO.ite ?_ ?_
   | refine LeO.bind ?_ (fun _ => ?_)
  ·
   intro y0 y1 y2 y3 y4 y5 y6 y7 y8 y9 y10 y11 y12 y13 y14 y15 y16
   unfold laws_FnExactChunk.j1
   repeat' first
   | (with_reducible exact ih0 _ _ _ _ _ _ _ _ _ _ _ _ _ _ _ _ _ _ _ _ _ _)
   | (with_reducible exact ih1 _ _ _ _ _ _ _ _ _ _ _ _ _ _ _ _ _)
   | (with_reducible exact ih2 _ _ _ _ _ _)
   | (with_reducible exact impl_Chunk.mono _ _ _ _ _ _ _ _)
   | (with_reducible exact laws_eqStore.mono _ _ _ _ _ _ _ _ _)
   | (with_reducible exact laws_heldStore.mono _ _ _ _ _ _)
   | (with_reducible exact laws_markStore.mono _ _ _ _ _ _)
   | (with_reducible exact laws_szStore.mono _ _ _ _ _ _)
   | (with_reducible exact laws_toStore.mono _ _ _ _ _)
   | (with_reducible exact spec_Chunk.mono _ _ _ _ _ _ _ _)
   | (with_reducible exact LeO.refl _)
   | (with_reducible exact LeO.none _)
   | (with_reducible refine LeO.ite ?_ ?_)
   | (with_reducible refine LeO.bind ?_ (fun _ => ?_))
   | exact LeO.none _
   | refine LeO.ite ?_ ?_
   | refine LeO.bind ?_ (fun _ => ?_)
  intro y0 y1 y2 y3 y4 y5
  unfold laws_FnExactChunk.j2
  repeat' first
  | (with_reducible exact ih0 _ _ _ _ _ _ _ _ _ _ _ _ _ _ _ _ _ _ _ _ _ _)
  | (with_reducible exact ih1 _ _ _ _ _ _ _ _ _ _ _ _ _ _ _ _ _)
  | (with_reducible exact ih2 _ _ _ _ _ _)
  | (with_reducible exact impl_Chunk.mono _ _ _ _ _ _ _ _)
  | (with_reducible exact laws_eqStore.mono _ _ _ _ _ _ _ _ _)
  | (with_reducible exact laws_heldStore.mono _ _ _ _ _ _)
  | (with_reducible exact laws_markStore.mono _ _ _ _ _ _)
  | (with_reducible exact laws_szStore.mono _ _ _ _ _ _)
  | (with_reducible exact laws_toStore.mono _ _ _ _ _)
  | (with_reducible exact spec_Chunk.mono _ _ _ _ _ _ _ _)
  | (with_reducible exact LeO.refl _)
  | (with_reducible exact LeO.none _)
  | (with_reducible refine LeO.ite ?_ ?_)
  | (with_reducible refine LeO.bind ?_ (fun _ => ?_))
  | exact LeO.none _
  | refine LeO.ite ?_ ?_
  | refine LeO.bind ?_ (fun _ => ?_)
theorem laws_FnExactChunk.mono : ∀ a0 a1 a2 a3 a4 a5 a6 k, LeO (laws_FnExactChunk.f k a0 a1 a2 a3 a4 a5 a6) (laws_FnExactChunk.f (k + 1) a0 a1 a2 a3 a4 a5 a6) := by
 intro a0 a1 a2 a3 a4 a5 a6 k
 obtain ⟨ih0, ih1, ih2⟩ := laws_FnExactChunk.mono_l k
 unfold laws_FnExactChunk.f
 repeat' first
   | (with_reducible exact ih0 _ _ _ _ _ _ _ _ _ _ _ _ _ _ _ _ _ _ _ _ _ _)
   | (with_reducible exact ih1 _ _ _ _ _ _ _ _ _ _ _ _ _ _ _ _ _)
   | (with_reducible exact ih2 _ _ _ _ _ _)
   | (with_reducible exact impl_Chunk.mono _ _ _ _ _ _ _ _)
   | (with_reducible exact laws_eqStore.mono _ _ _ _ _ _ _ _ _)
   | (with_reducible exact laws_heldStore.mono _ _ _ _ _ _)
   | (with_reducible exact laws_markStore.mono _ _ _ _ _ _)
   | (with_reducible exact laws_szStore.mono _ _ _ _ _ _)
   | (with_reducible exact laws_toStore.mono _ _ _ _ _)
   | (with_reducible exact spec_Chunk.mono _ _ _ _ _ _ _ _)
   | (with_reducible exact LeO.refl _)
   | (with_reducible exact LeO.none _)
   | (with_reducible refine LeO.ite ?_ ?_)
   | (with_reducible refine LeO.bind ?_ (fun _ => ?_))
   | exact LeO.none _
   | refine LeO.ite ?_ ?_
   | refine LeO.bind ?_ (fun _ => ?_)
set_option maxHeartbeats 8000000 in
set_option maxRecDepth 100000 in
theorem laws_FnExactChunk.calls (k : Nat) (a0_0 : Int) (A0_1 : Option Addr) (c0_1 : Nat) (l0_1 : List (S95)) (A0_2 : Option Addr) (c0_2 : Nat) (l0_2 : List (S97)) (a0_3 : Int) (a1 : Int) (a2 : Int) (a3 : ByteArray) (r : Bool) (w : World) (hr0_1 : Kd.C k95 w A0_1 l0_1.length l0_1) (hc0_1 : l0_1.length ≤ c0_1) (hr0_2 : Kd.C k97 w A0_2 l0_2.length l0_2) (hc0_2 : l0_2.length ≤ c0_2) (h : laws_FnExactChunk.f k a0_0 l0_1 l0_2 a0_3 a1 a2 a3 = some r) :
  Calls Try.prog 9 #[.agg #[.int .i64 a0_0, .slice A0_1 l0_1.length c0_1, .slice A0_2 l0_2.length c0_2, .int .i64 a0_3], .int .i64 a1, .int .i64 a2, .string a3] w fun e w' => e = .returned (.bool r) ∧ Below w.heap.size w w' := by
 have hu25 := Try.underlying25
 have hu31 := Try.underlying31
 have HR0_1 := Aside0.mk hr0_1
 have HC0_1 := Aside0.mk hc0_1
 clear hr0_1 hc0_1
 have HR0_2 := Aside0.mk hr0_2
 have HC0_2 := Aside0.mk hc0_2
 clear hr0_2 hc0_2
 have HB := Aside0.mk (Below.refl w.heap.size w)
 have H : (if (a3.size : Int) > 1048576 then (some true) else ((laws_szStore.f k a0_0 l0_1 l0_2 a0_3 1048576).bind fun t407 => (if t407 < 0 then (some true) else ((laws_toStore.f k a0_0 l0_1 l0_2 a0_3).bind fun bt408 => ((spec_Chunk.f k bt408.1 bt408.2.1 bt408.2.2.1 bt408.2.2.2 a1 a2 a3).bind fun bt416 => ((laws_toStore.f k a0_0 l0_1 l0_2 a0_3).bind fun bt426 => ((impl_Chunk.f k bt426.1 bt426.2.1 bt426.2.2.1 bt426.2.2.2 a1 a2 a3).bind fun bt435 => ((laws_eqStore.f k bt435.1 bt435.2.1 bt435.2.2.1 bt435.2.2.2.1 bt416.1 bt416.2.1 bt416.2.2.1 bt416.2.2.2.1).bind fun t445 => (if t445 = true then (laws_FnExactChunk.j0 k a1 a2 a3 bt416.2.2.2.2 bt435.2.2.2.2 (bt435.2.2.2.2 != bt416.2.2.2.2) a0_0 l0_1 l0_2 a0_3 bt416.1 bt416.2.1 bt416.2.2.1 bt416.2.2.2.1 bt426.1 bt426.2.1 bt426.2.2.1 bt426.2.2.2 bt435.1 bt435.2.1 bt435.2.2.1 bt435.2.2.2.1) else (laws_FnExactChunk.j0 k a1 a2 a3 bt416.2.2.2.2 bt435.2.2.2.2 true a0_0 l0_1 l0_2 a0_3 bt416.1 bt416.2.1 bt416.2.2.1 bt416.2.2.2.1 bt426.1 bt426.2.1 bt426.2.2.1 bt426.2.2.2 bt435.1 bt435.2.1 bt435.2.2.1 bt435.2.2.2.1)))))))))) = some r := h
 clear h
 by_cases c5 : (a3.size : Int) > 1048576
 ·
  rw [if_pos c5] at H
  have c5b0 : decide (1048576 < (a3.size : Int)) = true := decide_eq_true c5
  have c5b1 : decide (1048576 < a3.size) = true := decide_eq_true (by omega)
  clear c5
  obtain rfl := Option.some.inj H
  go_enter Try.func9, Try.ntmps9
  go_wp2_with (first | ((with_reducible refine gate_dst (N := 4) rfl ?_); refine box_event ?hg (N := 4) ?hd (cs := #[.int .i64 a0_0, .slice A0_1 l0_1.length c0_1, .slice A0_2 l0_2.length c0_2, .int .i64 a0_3]) (t := 25) ?hr ?_; (case hd => rfl); (case hg => rfl); (case hr => exact zq2); intro gb406 hg w6 hbox hb; have BK406 := Aside0.mk hbox; have GW406 := Aside0.mk (zq260 : w.heap.size ≤ gb406); have GE406 := Aside0.mk (zq260 : w.heap.size ≤ gb406); replace HB := sB zq3 hb; clear hb hbox hg))
  go_ret
  exact ⟨zq4, zq93⟩
 rw [if_neg c5] at H
 have c5b0 : decide (1048576 < (a3.size : Int)) = false := decide_eq_false c5
 have c5b1 : decide (1048576 < a3.size) = false := decide_eq_false (by omega)
 clear c5
 replace H := Option.bind_eq_some_iff.mp H
 obtain ⟨t407, A70, H⟩ := H
 try dsimp only at H
 have A7 := Aside0.mk A70
 clear A70
 by_cases c8 : t407 < 0
 ·
  rw [if_pos c8] at H
  have c8b0 := decide_eq_true c8
  clear c8
  obtain rfl := Option.some.inj H
  go_enter Try.func9, Try.ntmps9
  go_wp2_with (first | ((with_reducible refine gate_dst (N := 4) rfl ?_); refine box_event ?hg (N := 4) ?hd (cs := #[.int .i64 a0_0, .slice A0_1 l0_1.length c0_1, .slice A0_2 l0_2.length c0_2, .int .i64 a0_3]) (t := 25) ?hr ?_; (case hd => rfl); (case hg => rfl); (case hr => exact zq2); intro gb406 hg w9 hbox hb; have BK406 := Aside0.mk hbox; have GW406 := Aside0.mk (zq260 : w.heap.size ≤ gb406); have GE406 := Aside0.mk (zq260 : w.heap.size ≤ gb406); replace HB := sB zq3 hb; clear hb hbox hg; obtain ⟨hcz10_0, hcz10_1, hcz10_2, hcz10_3, hfz10_0, hfz10_1, hfz10_2, hfz10_3⟩ := c4 (w := w9) BK406) | ((with_reducible refine gC 15 rfl ?_); refine gL 25 Try.func15 #[.agg #[.int .i64 a0_0, .slice A0_1 l0_1.length c0_1, .slice A0_2 l0_2.length c0_2, .int .i64 a0_3], .int .i64 1048576] ?_; (with_reducible refine (laws_szStore.calls k a0_0 _ _ l0_1 _ _ l0_2 a0_3 1048576 t407 _ ?_ ?_ ?_ ?_ A7.out).mono ?_); exact zq11; exact zq12; exact zq15; exact zq16; rintro e w11 ⟨rfl, hb⟩; refine ⟨_, rfl, ?_⟩; replace BK406 := bF BK406 zq94 hb; replace HB := sB zq93 hb; clear hb))
  go_ret
  exact ⟨zq4, zq93⟩
 rw [if_neg c8] at H
 have c8b0 := decide_eq_false c8
 clear c8
 replace H := Option.bind_eq_some_iff.mp H
 obtain ⟨⟨t408, t409, t412, t415⟩, A120, H⟩ := H
 try dsimp only at H
 have A12 := Aside0.mk A120
 clear A120
 replace H := Option.bind_eq_some_iff.mp H
 obtain ⟨⟨t416, t417, t420, t423, t424⟩, A130, H⟩ := H
 try dsimp only at H
 have A13 := Aside0.mk A130
 clear A130
 replace H := Option.bind_eq_some_iff.mp H
 obtain ⟨⟨t426, t427, t430, t433⟩, A140, H⟩ := H
 try dsimp only at H
 have A14 := Aside0.mk A140
 clear A140
 replace H := Option.bind_eq_some_iff.mp H
 obtain ⟨⟨t435, t436, t439, t442, t443⟩, A150, H⟩ := H
 try dsimp only at H
 have A15 := Aside0.mk A150
 clear A150
 have HC16 := Aside0.mk H
 clear H
 go_enter Try.func9, Try.ntmps9
 go_upto_region 10 with (first | ((with_reducible refine gate_dst (N := 4) rfl ?_); refine box_event ?hg (N := 4) ?hd (cs := #[.int .i64 a0_0, .slice A0_1 l0_1.length c0_1, .slice A0_2 l0_2.length c0_2, .int .i64 a0_3]) (t := 25) ?hr ?_; (case hd => rfl); (case hg => rfl); (case hr => exact zq2); intro gb406 hg w17 hbox hb; have BK406 := Aside0.mk hbox; have GW406 := Aside0.mk (zq260 : w.heap.size ≤ gb406); have GE406 := Aside0.mk (zq260 : w.heap.size ≤ gb406); replace HB := sB zq3 hb; clear hb hbox hg; obtain ⟨hcz18_0, hcz18_1, hcz18_2, hcz18_3, hfz18_0, hfz18_1, hfz18_2, hfz18_3⟩ := c4 (w := w17) BK406) | ((with_reducible refine gC 15 rfl ?_); refine gL 25 Try.func15 #[.agg #[.int .i64 a0_0, .slice A0_1 l0_1.length c0_1, .slice A0_2 l0_2.length c0_2, .int .i64 a0_3], .int .i64 1048576] ?_; (with_reducible refine (laws_szStore.calls k a0_0 _ _ l0_1 _ _ l0_2 a0_3 1048576 t407 _ ?_ ?_ ?_ ?_ A7.out).mono ?_); exact zq11; exact zq12; exact zq15; exact zq16; rintro e w19 ⟨rfl, hb⟩; refine ⟨_, rfl, ?_⟩; replace BK406 := bF BK406 zq94 hb; replace HB := sB zq93 hb; clear hb; obtain ⟨hcz20_0, hcz20_1, hcz20_2, hcz20_3, hfz20_0, hfz20_1, hfz20_2, hfz20_3⟩ := c4 (w := w19) BK406) | ((with_reducible refine gC 17 rfl ?_); refine gL 30 Try.func17 #[.agg #[.int .i64 a0_0, .slice A0_1 l0_1.length c0_1, .slice A0_2 l0_2.length c0_2, .int .i64 a0_3]] ?_; (with_reducible refine (laws_toStore.calls k a0_0 _ _ l0_1 _ _ l0_2 a0_3 t408 t409 t412 t415 _ ?_ ?_ ?_ ?_ A12.out).mono ?_); exact zq11; exact zq12; exact zq15; exact zq16; rintro e w21 ⟨v410, v413, rfl, ho0, ho1, hb⟩; refine ⟨_, rfl, ?_⟩; have HO411 := Aside0.mk (Kd.R_lower ho0 (below_size zq93)); have HO414 := Aside0.mk (Kd.R_lower ho1 (below_size zq93)); replace BK406 := bF BK406 zq94 hb; replace HB := sB zq93 hb; clear hb; (try clear ho0); (try clear ho1); obtain ⟨Ao22, co22, eo22⟩ := Kd.R_slice HO411.out; subst eo22; obtain ⟨Ao23, co23, eo23⟩ := Kd.R_slice HO414.out; subst eo23) | ((with_reducible refine gC 35 rfl ?_); refine gL 34 Try.func35 #[.agg #[.int .i64 t408, .slice Ao22 t409.length co22, .slice Ao23 t412.length co23, .int .i64 t415], .int .i64 a1, .int .i64 a2, .string a3] ?_; (with_reducible refine (spec_Chunk.calls k t408 _ _ t409 _ _ t412 t415 a1 a2 a3 t416 t417 t420 t423 t424 _ ?side1 ?_ ?side3 ?_ A13.out).mono ?_); (case side1 => repeat (first | exact (Kd.R_reads' HO411.out).2.2 | (with_reducible refine Kd.C_alloc ?_ _) | (with_reducible refine Kd.C_drewN ?_ _) | (with_reducible refine Kd.C_drew ?_))); exact (Kd.R_reads' HO411.out).2.1; (case side3 => repeat (first | exact (Kd.R_reads' HO414.out).2.2 | (with_reducible refine Kd.C_alloc ?_ _) | (with_reducible refine Kd.C_drewN ?_ _) | (with_reducible refine Kd.C_drew ?_))); exact (Kd.R_reads' HO414.out).2.1; rintro e w24 ⟨v418, v421, rfl, ho0, ho1, hb⟩; refine ⟨_, rfl, ?_⟩; have HO419 := Aside0.mk (Kd.R_lower (Kd.R_new' ho0 (Kd.R_lt zq95)) (below_size zq93)); replace HO411 := Aside0.mk (Kd.R_elder' zq95 (Kd.R_base ho0) hb); have HO422 := Aside0.mk (Kd.R_lower (Kd.R_new' ho1 (Kd.R_lt zq96)) (below_size zq93)); replace HO414 := Aside0.mk (Kd.R_elder' zq96 (Kd.R_base ho1) hb); replace BK406 := bF BK406 zq94 hb; replace HB := sB zq93 hb; clear hb; (try clear ho0); (try clear ho1)) | ((with_reducible refine gate_dst (N := 10) rfl ?_); refine box_event ?hg (N := 10) ?hd (cs := #[.int .i64 0, .slice none 0 0, .slice none 0 0, .int .i64 0]) (t := 31) ?hr ?_; (case hd => rfl); (case hg => rfl); (case hr => exact zq2); intro gb425 hg w25 hbox hb; replace HO411 := rB zq95 hb; replace HO414 := rB zq96 hb; replace HO419 := rB zq97 hb; replace HO422 := rB zq98 hb; have BK425 := Aside0.mk hbox; have GW425 := Aside0.mk (by rw [hg]; exact (below_size zq93) : w.heap.size ≤ gb425); have GE425 := Aside0.mk (by rw [hg]; exact (below_size zq93) : w.heap.size ≤ gb425); replace HB := sB zq93 hb; have NB406_425 := Aside0.mk (zq290 : gb406 ≠ gb425); have NB425_406 := Aside0.mk (zq291 : gb425 ≠ gb406); replace BK406 := bF BK406 zq94 hb; clear hb hbox hg; have hnb26 := NB425_406.out; have hnc26 := NB406_425.out; obtain ⟨hcz27_0, hcz27_1, hcz27_2, hcz27_3, hfz27_0, hfz27_1, hfz27_2, hfz27_3⟩ := c4 (w := w25) BK425; obtain ⟨Ao28, co28, eo28⟩ := Kd.R_slice HO419.out; subst eo28; obtain ⟨Ao29, co29, eo29⟩ := Kd.R_slice HO422.out; subst eo29; obtain ⟨hcz30_0, hcz30_1, hcz30_2, hcz30_3, hfz30_0, hfz30_1, hfz30_2, hfz30_3⟩ := c4 (w := w25) BK406) | ((with_reducible refine gC 17 rfl ?_); refine gL 38 Try.func17 #[.agg #[.int .i64 a0_0, .slice A0_1 l0_1.length c0_1, .slice A0_2 l0_2.length c0_2, .int .i64 a0_3]] ?_; (with_reducible refine (laws_toStore.calls k a0_0 _ _ l0_1 _ _ l0_2 a0_3 t426 t427 t430 t433 _ ?_ ?_ ?_ ?_ A14.out).mono ?_); exact Kd.C_below HR0_1.out zq99; exact zq12; exact Kd.C_below HR0_2.out zq99; exact zq16; rintro e w31 ⟨v428, v431, rfl, ho0, ho1, hb⟩; refine ⟨_, rfl, ?_⟩; have HO429 := Aside0.mk (Kd.R_lower (Kd.R_new' (Kd.R_new' ho0 (Kd.R_lt zq100)) (Kd.R_lt zq102)) (below_size zq99)); replace HO411 := Aside0.mk (Kd.R_elder' zq100 (Kd.R_base ho0) hb); replace HO419 := Aside0.mk (Kd.R_elder' zq102 (Kd.R_base ho0) hb); have HO432 := Aside0.mk (Kd.R_lower (Kd.R_new' (Kd.R_new' ho1 (Kd.R_lt zq101)) (Kd.R_lt zq103)) (below_size zq99)); replace HO414 := Aside0.mk (Kd.R_elder' zq101 (Kd.R_base ho1) hb); replace HO422 := Aside0.mk (Kd.R_elder' zq103 (Kd.R_base ho1) hb); replace BK406 := bF BK406 (by (with_reducible repeat (first | refine blk_drewN ?_ _ | refine blk_drew ?_ | refine blk_alloc ?_ _)); refine blk_far ?_ NB406_425.out _; (with_reducible repeat (first | refine blk_drewN ?_ _ | refine blk_drew ?_ | refine blk_alloc ?_ _)); refine blk_far ?_ NB406_425.out _; (with_reducible repeat (first | refine blk_drewN ?_ _ | refine blk_drew ?_ | refine blk_alloc ?_ _)); refine blk_far ?_ NB406_425.out _; (with_reducible repeat (first | refine blk_drewN ?_ _ | refine blk_drew ?_ | refine blk_alloc ?_ _)); refine blk_far ?_ NB406_425.out _; (with_reducible repeat (first | refine blk_drewN ?_ _ | refine blk_drew ?_ | refine blk_alloc ?_ _)); exact BK406.out) hb; replace BK425 := bB (g := gb425) (o := .cells #[.int .i64 t416, .slice Ao28 t417.length co28, .slice Ao29 t420.length co29, .int .i64 t423] 31 (0, 0)) (by (with_reducible repeat (first | refine blk_drewN ?_ _ | refine blk_drew ?_ | refine blk_alloc ?_ _)); refine blk_put (cs := #[.int .i64 t416, .slice Ao28 t417.length co28, .slice Ao29 t420.length co29, .int .i64 0]) ?_ 3 _ rfl; (with_reducible repeat (first | refine blk_drewN ?_ _ | refine blk_drew ?_ | refine blk_alloc ?_ _)); refine blk_put (cs := #[.int .i64 t416, .slice Ao28 t417.length co28, .slice none 0 0, .int .i64 0]) ?_ 2 _ rfl; (with_reducible repeat (first | refine blk_drewN ?_ _ | refine blk_drew ?_ | refine blk_alloc ?_ _)); refine blk_put (cs := #[.int .i64 t416, .slice none 0 0, .slice none 0 0, .int .i64 0]) ?_ 1 _ rfl; (with_reducible repeat (first | refine blk_drewN ?_ _ | refine blk_drew ?_ | refine blk_alloc ?_ _)); refine blk_put (cs := #[.int .i64 0, .slice none 0 0, .slice none 0 0, .int .i64 0]) ?_ 0 _ rfl; (with_reducible repeat (first | refine blk_drewN ?_ _ | refine blk_drew ?_ | refine blk_alloc ?_ _)); exact BK425.out) hb; replace HB := sB zq99 hb; clear hb; (try clear ho0); (try clear ho1)) | ((with_reducible refine gate_dst (N := 12) rfl ?_); refine box_event ?hg (N := 12) ?hd (cs := #[.int .i64 0, .slice none 0 0, .slice none 0 0, .int .i64 0]) (t := 31) ?hr ?_; (case hd => rfl); (case hg => rfl); (case hr => exact zq2); intro gb434 hg w32 hbox hb; replace HO411 := rB zq95 hb; replace HO414 := rB zq96 hb; replace HO419 := rB zq97 hb; replace HO422 := rB zq98 hb; replace HO429 := rB zq104 hb; replace HO432 := rB zq105 hb; have BK434 := Aside0.mk hbox; have GW434 := Aside0.mk (by rw [hg]; exact (below_size zq99) : w.heap.size ≤ gb434); have GE434 := Aside0.mk (by rw [hg]; exact (below_size zq99) : w.heap.size ≤ gb434); replace HB := sB zq99 hb; have NB406_434 := Aside0.mk (zq290 : gb406 ≠ gb434); have NB434_406 := Aside0.mk (zq291 : gb434 ≠ gb406); replace BK406 := bF BK406 zq94 hb; have NB425_434 := Aside0.mk (zq292 : gb425 ≠ gb434); have NB434_425 := Aside0.mk (zq293 : gb434 ≠ gb425); replace BK425 := bF BK425 zq106 hb; clear hb hbox hg; have hnb33 := NB434_406.out; have hnc33 := NB406_434.out; have hnb34 := NB434_425.out; have hnc34 := NB425_434.out; obtain ⟨hcz35_0, hcz35_1, hcz35_2, hcz35_3, hfz35_0, hfz35_1, hfz35_2, hfz35_3⟩ := c4 (w := w32) BK434; obtain ⟨Ao36, co36, eo36⟩ := Kd.R_slice HO429.out; subst eo36; obtain ⟨Ao37, co37, eo37⟩ := Kd.R_slice HO432.out; subst eo37) | ((with_reducible refine gC 36 rfl ?_); refine gL 44 Try.func36 #[.agg #[.int .i64 t426, .slice Ao36 t427.length co36, .slice Ao37 t430.length co37, .int .i64 t433], .int .i64 a1, .int .i64 a2, .string a3] ?_; (with_reducible refine (impl_Chunk.calls k t426 _ _ t427 _ _ t430 t433 a1 a2 a3 t435 t436 t439 t442 t443 _ ?side1 ?_ ?side3 ?_ A15.out).mono ?_); (case side1 => refine (Kd.R_reads' (e := 66) (base := w.heap.size) (ok := fun k_ => ((True ∧ some k_ ≠ (.slice Ao22 t409.length co22 : Value).ownBlock) ∧ some k_ ≠ (.slice Ao28 t417.length co28 : Value).ownBlock)) (n := t427.length) (c := co36) ?_).2.2; exact zq107); exact (Kd.R_reads' HO429.out).2.1; (case side3 => refine (Kd.R_reads' (e := 68) (base := w.heap.size) (ok := fun k_ => ((True ∧ some k_ ≠ (.slice Ao23 t412.length co23 : Value).ownBlock) ∧ some k_ ≠ (.slice Ao29 t420.length co29 : Value).ownBlock)) (n := t430.length) (c := co37) ?_).2.2; exact zq108); exact (Kd.R_reads' HO432.out).2.1; rintro e w38 ⟨v437, v440, rfl, ho0, ho1, hb⟩; refine ⟨_, rfl, ?_⟩; have HO438 := Aside0.mk (Kd.R_lower (Kd.R_new' (Kd.R_new' (Kd.R_new' ho0 (Kd.R_lt zq109)) (Kd.R_lt zq111)) (Kd.R_lt zq107)) (below_size zq113)); replace HO411 := Aside0.mk (Kd.R_elder' zq109 (Kd.R_base ho0) hb); replace HO419 := Aside0.mk (Kd.R_elder' zq111 (Kd.R_base ho0) hb); replace HO429 := Aside0.mk (Kd.R_elder' zq107 (Kd.R_base ho0) hb); have HO441 := Aside0.mk (Kd.R_lower (Kd.R_new' (Kd.R_new' (Kd.R_new' ho1 (Kd.R_lt zq110)) (Kd.R_lt zq112)) (Kd.R_lt zq108)) (below_size zq113)); replace HO414 := Aside0.mk (Kd.R_elder' zq110 (Kd.R_base ho1) hb); replace HO422 := Aside0.mk (Kd.R_elder' zq112 (Kd.R_base ho1) hb); replace HO432 := Aside0.mk (Kd.R_elder' zq108 (Kd.R_base ho1) hb); replace BK406 := bF BK406 (by (with_reducible repeat (first | refine blk_drewN ?_ _ | refine blk_drew ?_ | refine blk_alloc ?_ _)); refine blk_far ?_ NB406_434.out _; (with_reducible repeat (first | refine blk_drewN ?_ _ | refine blk_drew ?_ | refine blk_alloc ?_ _)); refine blk_far ?_ NB406_434.out _; (with_reducible repeat (first | refine blk_drewN ?_ _ | refine blk_drew ?_ | refine blk_alloc ?_ _)); refine blk_far ?_ NB406_434.out _; (with_reducible repeat (first | refine blk_drewN ?_ _ | refine blk_drew ?_ | refine blk_alloc ?_ _)); refine blk_far ?_ NB406_434.out _; (with_reducible repeat (first | refine blk_drewN ?_ _ | refine blk_drew ?_ | refine blk_alloc ?_ _)); exact BK406.out) hb; replace BK425 := bF BK425 (by (with_reducible repeat (first | refine blk_drewN ?_ _ | refine blk_drew ?_ | refine blk_alloc ?_ _)); refine blk_far ?_ NB425_434.out _; (with_reducible repeat (first | refine blk_drewN ?_ _ | refine blk_drew ?_ | refine blk_alloc ?_ _)); refine blk_far ?_ NB425_434.out _; (with_reducible repeat (first | refine blk_drewN ?_ _ | refine blk_drew ?_ | refine blk_alloc ?_ _)); refine blk_far ?_ NB425_434.out _; (with_reducible repeat (first | refine blk_drewN ?_ _ | refine blk_drew ?_ | refine blk_alloc ?_ _)); refine blk_far ?_ NB425_434.out _; (with_reducible repeat (first | refine blk_drewN ?_ _ | refine blk_drew ?_ | refine blk_alloc ?_ _)); exact BK425.out) hb; replace BK434 := bB (g := gb434) (o := .cells #[.int .i64 t426, .slice Ao36 t427.length co36, .slice Ao37 t430.length co37, .int .i64 t433] 31 (0, 0)) (by (with_reducible repeat (first | refine blk_drewN ?_ _ | refine blk_drew ?_ | refine blk_alloc ?_ _)); refine blk_put (cs := #[.int .i64 t426, .slice Ao36 t427.length co36, .slice Ao37 t430.length co37, .int .i64 0]) ?_ 3 _ rfl; (with_reducible repeat (first | refine blk_drewN ?_ _ | refine blk_drew ?_ | refine blk_alloc ?_ _)); refine blk_put (cs := #[.int .i64 t426, .slice Ao36 t427.length co36, .slice none 0 0, .int .i64 0]) ?_ 2 _ rfl; (with_reducible repeat (first | refine blk_drewN ?_ _ | refine blk_drew ?_ | refine blk_alloc ?_ _)); refine blk_put (cs := #[.int .i64 t426, .slice none 0 0, .slice none 0 0, .int .i64 0]) ?_ 1 _ rfl; (with_reducible repeat (first | refine blk_drewN ?_ _ | refine blk_drew ?_ | refine blk_alloc ?_ _)); refine blk_put (cs := #[.int .i64 0, .slice none 0 0, .slice none 0 0, .int .i64 0]) ?_ 0 _ rfl; (with_reducible repeat (first | refine blk_drewN ?_ _ | refine blk_drew ?_ | refine blk_alloc ?_ _)); exact BK434.out) hb; replace HB := sB zq113 hb; clear hb; (try clear ho0); (try clear ho1)) | ((with_reducible refine gate_dst (N := 13) rfl ?_); refine box_event ?hg (N := 13) ?hd (cs := #[.int .i64 0, .slice none 0 0, .slice none 0 0, .int .i64 0]) (t := 31) ?hr ?_; (case hd => rfl); (case hg => rfl); (case hr => exact zq2); intro gb444 hg w39 hbox hb; replace HO411 := rB zq95 hb; replace HO414 := rB zq96 hb; replace HO419 := rB zq97 hb; replace HO422 := rB zq98 hb; replace HO429 := rB zq104 hb; replace HO432 := rB zq105 hb; replace HO438 := rB (by (with_reducible repeat (first | apply Kd.R_alloc | apply Kd.R_drewN | apply Kd.R_drew)); exact HO438.out) hb; replace HO441 := rB (by (with_reducible repeat (first | apply Kd.R_alloc | apply Kd.R_drewN | apply Kd.R_drew)); exact HO441.out) hb; have BK444 := Aside0.mk hbox; have GW444 := Aside0.mk (by rw [hg]; exact (below_size zq113) : w.heap.size ≤ gb444); have GE444 := Aside0.mk (by rw [hg]; exact (below_size zq113) : w.heap.size ≤ gb444); replace HB := sB zq113 hb; have NB406_444 := Aside0.mk (zq290 : gb406 ≠ gb444); have NB444_406 := Aside0.mk (zq291 : gb444 ≠ gb406); replace BK406 := bF BK406 zq94 hb; have NB425_444 := Aside0.mk (zq292 : gb425 ≠ gb444); have NB444_425 := Aside0.mk (zq293 : gb444 ≠ gb425); replace BK425 := bF BK425 zq106 hb; have NB434_444 := Aside0.mk (by rw [hg]; exact Nat.ne_of_lt (blk_lt (g := gb434) (o := .cells #[.int .i64 t426, .slice Ao36 t427.length co36, .slice Ao37 t430.length co37, .int .i64 t433] 31 (0, 0)) zq114) : gb434 ≠ gb444); have NB444_434 := Aside0.mk (by rw [hg]; exact Nat.ne_of_gt (blk_lt (g := gb434) (o := .cells #[.int .i64 t426, .slice Ao36 t427.length co36, .slice Ao37 t430.length co37, .int .i64 t433] 31 (0, 0)) zq114) : gb444 ≠ gb434); replace BK434 := bF BK434 zq114 hb; clear hb hbox hg; have hnb40 := NB444_406.out; have hnc40 := NB406_444.out; have hnb41 := NB444_425.out; have hnc41 := NB425_444.out; have hnb42 := NB444_434.out; have hnc42 := NB434_444.out; obtain ⟨hcz43_0, hcz43_1, hcz43_2, hcz43_3, hfz43_0, hfz43_1, hfz43_2, hfz43_3⟩ := c4 (w := w39) BK444; obtain ⟨Ao44, co44, eo44⟩ := Kd.R_slice HO438.out; subst eo44; obtain ⟨Ao45, co45, eo45⟩ := Kd.R_slice HO441.out; subst eo45))
 (try simp only [Act.put, List.setIfInBounds_toArray, List.set_cons_zero, List.set_cons_succ])
 go_cut [55] (fun v55 wc => ∃ (kq : Nat) (x55_15 : Bool), v55 = .bool x55_15 ∧ Aside0 (laws_FnExactChunk.j0 kq a1 a2 a3 t424 t443 x55_15 a0_0 l0_1 l0_2 a0_3 t416 t417 t420 t423 t426 t427 t430 t433 t435 t436 t439 t442 = some r) ∧ Aside0 (kq ≤ k) ∧ Aside0 (Kd.R k66 66 wc w.heap.size (fun k_ => some k_ ≠ ((.slice Ao36 t427.length co36) : Value).ownBlock ∧ some k_ ≠ ((.slice Ao44 t436.length co44) : Value).ownBlock) (.slice Ao28 t417.length co28) t417) ∧ Aside0 (Kd.R k68 68 wc w.heap.size (fun k_ => some k_ ≠ ((.slice Ao37 t430.length co37) : Value).ownBlock ∧ some k_ ≠ ((.slice Ao45 t439.length co45) : Value).ownBlock) (.slice Ao29 t420.length co29) t420) ∧ Aside0 (Kd.R k66 66 wc w.heap.size (fun k_ => some k_ ≠ ((.slice Ao28 t417.length co28) : Value).ownBlock ∧ some k_ ≠ ((.slice Ao44 t436.length co44) : Value).ownBlock) (.slice Ao36 t427.length co36) t427) ∧ Aside0 (Kd.R k68 68 wc w.heap.size (fun k_ => some k_ ≠ ((.slice Ao29 t420.length co29) : Value).ownBlock ∧ some k_ ≠ ((.slice Ao45 t439.length co45) : Value).ownBlock) (.slice Ao37 t430.length co37) t430) ∧ Aside0 (Kd.R k66 66 wc w.heap.size (fun k_ => some k_ ≠ ((.slice Ao28 t417.length co28) : Value).ownBlock ∧ some k_ ≠ ((.slice Ao36 t427.length co36) : Value).ownBlock) (.slice Ao44 t436.length co44) t436) ∧ Aside0 (Kd.R k68 68 wc w.heap.size (fun k_ => some k_ ≠ ((.slice Ao29 t420.length co29) : Value).ownBlock ∧ some k_ ≠ ((.slice Ao37 t430.length co37) : Value).ownBlock) (.slice Ao45 t439.length co45) t439) ∧ Aside0 (wc.heap[gb406]? = some (.cells #[.int .i64 a0_0, (.slice A0_1 l0_1.length c0_1), (.slice A0_2 l0_2.length c0_2), .int .i64 a0_3] 25 (0, 0))) ∧ Aside0 (wc.heap[gb425]? = some (.cells #[.int .i64 t416, (.slice Ao28 t417.length co28), (.slice Ao29 t420.length co29), .int .i64 t423] 31 (0, 0))) ∧ Aside0 (wc.heap[gb434]? = some (.cells #[.int .i64 t426, (.slice Ao36 t427.length co36), (.slice Ao37 t430.length co37), .int .i64 t433] 31 (0, 0))) ∧ Aside0 (wc.heap[gb444]? = some (.cells #[.int .i64 t435, (.slice Ao44 t436.length co44), (.slice Ao45 t439.length co45), .int .i64 t442] 31 (0, 0))) ∧ Aside0 (Below w.heap.size w wc))
 case first =>
  have H := HC16.out
  clear HC16
  replace H := Option.bind_eq_some_iff.mp H
  obtain ⟨t445, A460, H⟩ := H
  try dsimp only at H
  have A46 := Aside0.mk A460
  clear A460
  by_cases c47 : t445 = true
  ·
   subst c47
   have H1 : (laws_FnExactChunk.j0 k a1 a2 a3 t424 t443 (t443 != t424) a0_0 l0_1 l0_2 a0_3 t416 t417 t420 t423 t426 t427 t430 t433 t435 t436 t439 t442) = some r := by rw [if_pos rfl] at H; exact H
   clear H
   have H := H1
   clear H1
   have H' := Aside0.mk H
   clear H
   have hnb48 := NB444_406.out
   have hnc48 := NB406_444.out
   have hnb49 := NB444_425.out
   have hnc49 := NB425_444.out
   have hnb50 := NB444_434.out
   have hnc50 := NB434_444.out
   obtain ⟨hcz51_0, hcz51_1, hcz51_2, hcz51_3, hfz51_0, hfz51_1, hfz51_2, hfz51_3⟩ := c4 (w := w39) BK444
   have hnb52 := NB425_406.out
   have hnc52 := NB406_425.out
   have hnb53 := NB425_434.out
   have hnc53 := NB434_425.out
   obtain ⟨hcz54_0, hcz54_1, hcz54_2, hcz54_3, hfz54_0, hfz54_1, hfz54_2, hfz54_3⟩ := c4 (w := w39) BK425
   go_wp2_with (first | ((with_reducible refine gC 19 rfl ?_); refine gL 49 Try.func19 #[.agg #[.int .i64 t435, .slice Ao44 t436.length co44, .slice Ao45 t439.length co45, .int .i64 t442], .agg #[.int .i64 t416, .slice Ao28 t417.length co28, .slice Ao29 t420.length co29, .int .i64 t423]] ?_; (with_reducible refine (laws_eqStore.calls k t435 _ _ t436 _ _ t439 t442 t416 _ _ t417 _ _ t420 t423 true _ ?_ ?_ ?_ ?_ ?_ ?_ ?_ ?_ A46.out).mono ?_); exact zq294; exact (Kd.R_reads' HO438.out).2.1; exact zq295; exact (Kd.R_reads' HO441.out).2.1; exact zq296; exact (Kd.R_reads' HO419.out).2.1; exact zq297; exact (Kd.R_reads' HO422.out).2.1; rintro e w55 ⟨rfl, hb⟩; refine ⟨_, rfl, ?_⟩; replace HO411 := rB zq119 hb; replace HO414 := rB zq120 hb; replace HO419 := rB zq117 hb; replace HO422 := rB zq118 hb; replace HO429 := rB zq121 hb; replace HO432 := rB zq122 hb; replace HO438 := rB zq115 hb; replace HO441 := rB zq116 hb; replace BK406 := bF BK406 zq123 hb; replace BK425 := bF BK425 zq124 hb; replace BK434 := bF BK434 zq125 hb; replace BK444 := bB (g := gb444) (o := .cells #[.int .i64 t435, .slice Ao44 t436.length co44, .slice Ao45 t439.length co45, .int .i64 t442] 31 (0, 0)) zq126 hb; replace HB := sB zq127 hb; clear hb))
   go_meet
   case rel => exact ⟨_, ((t443 != t424)), zq6, H', ⟨zq64⟩, ⟨zq128⟩, ⟨zq129⟩, ⟨zq130⟩, ⟨zq131⟩, ⟨zq132⟩, ⟨zq133⟩, ⟨zq94⟩, ⟨zq106⟩, ⟨zq114⟩, ⟨zq134⟩, ⟨zq127⟩⟩
  replace c47 := Bool.eq_false_iff.mpr c47
  subst c47
  have H1 : (laws_FnExactChunk.j0 k a1 a2 a3 t424 t443 true a0_0 l0_1 l0_2 a0_3 t416 t417 t420 t423 t426 t427 t430 t433 t435 t436 t439 t442) = some r := by rw [if_neg (show ¬ (false = true) by decide)] at H; exact H
  clear H
  have H := H1
  clear H1
  have H' := Aside0.mk H
  clear H
  have hnb56 := NB444_406.out
  have hnc56 := NB406_444.out
  have hnb57 := NB444_425.out
  have hnc57 := NB425_444.out
  have hnb58 := NB444_434.out
  have hnc58 := NB434_444.out
  obtain ⟨hcz59_0, hcz59_1, hcz59_2, hcz59_3, hfz59_0, hfz59_1, hfz59_2, hfz59_3⟩ := c4 (w := w39) BK444
  have hnb60 := NB425_406.out
  have hnc60 := NB406_425.out
  have hnb61 := NB425_434.out
  have hnc61 := NB434_425.out
  obtain ⟨hcz62_0, hcz62_1, hcz62_2, hcz62_3, hfz62_0, hfz62_1, hfz62_2, hfz62_3⟩ := c4 (w := w39) BK425
  go_wp2_with (first | ((with_reducible refine gC 19 rfl ?_); refine gL 49 Try.func19 #[.agg #[.int .i64 t435, .slice Ao44 t436.length co44, .slice Ao45 t439.length co45, .int .i64 t442], .agg #[.int .i64 t416, .slice Ao28 t417.length co28, .slice Ao29 t420.length co29, .int .i64 t423]] ?_; (with_reducible refine (laws_eqStore.calls k t435 _ _ t436 _ _ t439 t442 t416 _ _ t417 _ _ t420 t423 false _ ?_ ?_ ?_ ?_ ?_ ?_ ?_ ?_ A46.out).mono ?_); exact zq294; exact (Kd.R_reads' HO438.out).2.1; exact zq295; exact (Kd.R_reads' HO441.out).2.1; exact zq296; exact (Kd.R_reads' HO419.out).2.1; exact zq297; exact (Kd.R_reads' HO422.out).2.1; rintro e w63 ⟨rfl, hb⟩; refine ⟨_, rfl, ?_⟩; replace HO411 := rB zq119 hb; replace HO414 := rB zq120 hb; replace HO419 := rB zq117 hb; replace HO422 := rB zq118 hb; replace HO429 := rB zq121 hb; replace HO432 := rB zq122 hb; replace HO438 := rB zq115 hb; replace HO441 := rB zq116 hb; replace BK406 := bF BK406 zq123 hb; replace BK425 := bF BK425 zq124 hb; replace BK434 := bF BK434 zq125 hb; replace BK444 := bB (g := gb444) (o := .cells #[.int .i64 t435, .slice Ao44 t436.length co44, .slice Ao45 t439.length co45, .int .i64 t442] 31 (0, 0)) zq126 hb; replace HB := sB zq127 hb; clear hb))
  go_meet
  case rel => exact ⟨_, (true), zq6, H', ⟨zq64⟩, ⟨zq128⟩, ⟨zq129⟩, ⟨zq130⟩, ⟨zq131⟩, ⟨zq132⟩, ⟨zq133⟩, ⟨zq94⟩, ⟨zq106⟩, ⟨zq114⟩, ⟨zq134⟩, ⟨zq127⟩⟩
 case rest =>
  clear HC16
  try clear c1
  try clear c2
  try clear p2
  try clear c3
  try clear c4
  try clear c5
  try clear c5b0
  try clear c5b1
  try clear c6
  try clear c8
  try clear c8b0
  try clear c9
  try clear c15
  try clear c17
  try clear c19
  try clear c26
  try clear c33
  try clear c34
  try clear c35
  try clear c36
  try clear c40
  try clear c41
  try clear c42
  try clear c47
  try clear c48
  try clear c49
  try clear c50
  try clear c52
  try clear c53
  try clear c56
  try clear c57
  try clear c58
  try clear c60
  try clear c61
  try clear hcz10_0
  try clear hcz10_1
  try clear hcz10_2
  try clear hcz10_3
  try clear hcz18_0
  try clear hcz18_1
  try clear hcz18_2
  try clear hcz18_3
  try clear hcz20_0
  try clear hcz20_1
  try clear hcz20_2
  try clear hcz20_3
  try clear hcz27_0
  try clear hcz27_1
  try clear hcz27_2
  try clear hcz27_3
  try clear hcz30_0
  try clear hcz30_1
  try clear hcz30_2
  try clear hcz30_3
  try clear hcz35_0
  try clear hcz35_1
  try clear hcz35_2
  try clear hcz35_3
  try clear hcz43_0
  try clear hcz43_1
  try clear hcz43_2
  try clear hcz43_3
  try clear hcz51_0
  try clear hcz51_1
  try clear hcz51_2
  try clear hcz51_3
  try clear hcz54_0
  try clear hcz54_1
  try clear hcz54_2
  try clear hcz54_3
  try clear hcz59_0
  try clear hcz59_1
  try clear hcz59_2
  try clear hcz59_3
  try clear hcz62_0
  try clear hcz62_1
  try clear hcz62_2
  try clear hcz62_3
  try clear hfz10_0
  try clear hfz10_1
  try clear hfz10_2
  try clear hfz10_3
  try clear hfz18_0
  try clear hfz18_1
  try clear hfz18_2
  try clear hfz18_3
  try clear hfz20_0
  try clear hfz20_1
  try clear hfz20_2
  try clear hfz20_3
  try clear hfz27_0
  try clear hfz27_1
  try clear hfz27_2
  try clear hfz27_3
  try clear hfz30_0
  try clear hfz30_1
  try clear hfz30_2
  try clear hfz30_3
  try clear hfz35_0
  try clear hfz35_1
  try clear hfz35_2
  try clear hfz35_3
  try clear hfz43_0
  try clear hfz43_1
  try clear hfz43_2
  try clear hfz43_3
  try clear hfz51_0
  try clear hfz51_1
  try clear hfz51_2
  try clear hfz51_3
  try clear hfz54_0
  try clear hfz54_1
  try clear hfz54_2
  try clear hfz54_3
  try clear hfz59_0
  try clear hfz59_1
  try clear hfz59_2
  try clear hfz59_3
  try clear hfz62_0
  try clear hfz62_1
  try clear hfz62_2
  try clear hfz62_3
  obtain ⟨kq, x55_15, rfl, HA, HJ15, HO_426001, HO_426002, HO_435001, HO_435002, HO_445001, HO_445002, BK406, BK425, BK434, BK444, HB⟩ := hcut
  cases kq with
  | zero => exact absurd HA.out (by simp [laws_FnExactChunk.j0])
  | succ kj15 =>
   have H := HA.out
   clear HA
   simp only [laws_FnExactChunk.j0] at H
   by_cases c64 : x55_15 = true
   ·
    subst c64
    have H1 : (some false) = some r := by rw [if_pos rfl] at H; exact H
    clear H
    have H := H1
    clear H1
    obtain rfl := Option.some.inj H
    go_wp2
    go_ret
    exact ⟨zq4, zq127⟩
   replace c64 := Bool.eq_false_iff.mpr c64
   subst c64
   have H1 : ((laws_toStore.f kj15 a0_0 l0_1 l0_2 a0_3).bind fun bt446 => ((laws_eqStore.f kj15 t426 t427 t430 t433 bt446.1 bt446.2.1 bt446.2.2.1 bt446.2.2.2).bind fun t454 => (if t454 = true then ((laws_markStore.f kj15 t426 t427 t430 t433 1).bind fun bt455 => (if bt455.1 < 0 then (laws_FnExactChunk.j1 kj15 a1 a2 a3 t424 true a0_0 l0_1 l0_2 a0_3 t416 t417 t420 t423 t435 t436 t439 t442) else ((laws_eqStore.f kj15 t435 t436 t439 t442 t416 t417 t420 t423).bind fun t458 => (if t458 = true then (laws_FnExactChunk.j1 kj15 a1 a2 a3 t424 (t443 != t424) a0_0 l0_1 l0_2 a0_3 t416 t417 t420 t423 t435 t436 t439 t442) else (laws_FnExactChunk.j1 kj15 a1 a2 a3 t424 true a0_0 l0_1 l0_2 a0_3 t416 t417 t420 t423 t435 t436 t439 t442))))) else (some false)))) = some r := by rw [if_neg (show ¬ (false = true) by decide)] at H; exact H
   clear H
   have H := H1
   clear H1
   replace H := Option.bind_eq_some_iff.mp H
   obtain ⟨⟨t446, t447, t450, t453⟩, A650, H⟩ := H
   try dsimp only at H
   have A65 := Aside0.mk A650
   clear A650
   replace H := Option.bind_eq_some_iff.mp H
   obtain ⟨t454, A660, H⟩ := H
   try dsimp only at H
   have A66 := Aside0.mk A660
   clear A660
   by_cases c67 : t454 = true
   ·
    subst c67
    have H1 : ((laws_markStore.f kj15 t426 t427 t430 t433 1).bind fun bt455 => (if bt455.1 < 0 then (laws_FnExactChunk.j1 kj15 a1 a2 a3 t424 true a0_0 l0_1 l0_2 a0_3 t416 t417 t420 t423 t435 t436 t439 t442) else ((laws_eqStore.f kj15 t435 t436 t439 t442 t416 t417 t420 t423).bind fun t458 => (if t458 = true then (laws_FnExactChunk.j1 kj15 a1 a2 a3 t424 (t443 != t424) a0_0 l0_1 l0_2 a0_3 t416 t417 t420 t423 t435 t436 t439 t442) else (laws_FnExactChunk.j1 kj15 a1 a2 a3 t424 true a0_0 l0_1 l0_2 a0_3 t416 t417 t420 t423 t435 t436 t439 t442))))) = some r := by rw [if_pos rfl] at H; exact H
    clear H
    have H := H1
    clear H1
    replace H := Option.bind_eq_some_iff.mp H
    obtain ⟨⟨t455, t456, t457⟩, A680, H⟩ := H
    try dsimp only at H
    have A68 := Aside0.mk A680
    clear A680
    have HC69 := Aside0.mk H
    clear H
    try go_wp2
    replace HO_426001 := Aside0.mk (Kd.R_drew HO_426001.out)
    replace HO_426002 := Aside0.mk (Kd.R_drew HO_426002.out)
    replace HO_435001 := Aside0.mk (Kd.R_drew HO_435001.out)
    replace HO_435002 := Aside0.mk (Kd.R_drew HO_435002.out)
    replace HO_445001 := Aside0.mk (Kd.R_drew HO_445001.out)
    replace HO_445002 := Aside0.mk (Kd.R_drew HO_445002.out)
    replace BK406 := Aside0.mk (blk_drew BK406.out)
    replace BK425 := Aside0.mk (blk_drew BK425.out)
    replace BK434 := Aside0.mk (blk_drew BK434.out)
    replace BK444 := Aside0.mk (blk_drew BK444.out)
    replace HB := Aside0.mk (below_drew1 HB.out)
    refine start_ (n := 5) (S := fun w' => w'.cell? ⟨gb434, 0, none⟩ = some (.int .i64 t426) ∧ w'.cell? ⟨gb434, 1, none⟩ = some (.slice Ao36 t427.length co36) ∧ w'.cell? ⟨gb434, 2, none⟩ = some (.slice Ao37 t430.length co37) ∧ w'.cell? ⟨gb434, 3, none⟩ = some (.int .i64 t433) ∧ w'.cell? ⟨gb406, 0, none⟩ = some (.int .i64 a0_0) ∧ w'.cell? ⟨gb406, 1, none⟩ = some (.slice A0_1 l0_1.length c0_1) ∧ w'.cell? ⟨gb406, 2, none⟩ = some (.slice A0_2 l0_2.length c0_2) ∧ w'.cell? ⟨gb406, 3, none⟩ = some (.int .i64 a0_3)) (ds := []) #[false, false, false, false, false] (by kernel_rfl) rfl rfl ⟨(blk_cell BK434.out 0).trans rfl, (blk_cell BK434.out 1).trans rfl, (blk_cell BK434.out 2).trans rfl, (blk_cell BK434.out 3).trans rfl, (blk_cell BK406.out 0).trans rfl, (blk_cell BK406.out 1).trans rfl, (blk_cell BK406.out 2).trans rfl, (blk_cell BK406.out 3).trans rfl⟩ (fun hHeld => ?_)
    generalize wc.drew = w70 at HO_426001 HO_426002 HO_435001 HO_435002 HO_445001 HO_445002 BK406 BK425 BK434 BK444 HB hHeld ⊢
    refine take_ (i := 0) (N := some 56) (v := ?_) (a' := ?_) #[true, false, false, false, false] rfl rfl (by kernel_rfl) (fun _ _ _ h => h) (Or.inl ⟨by rfl, ?_⟩) hHeld ?_ ?_
    rotate_left
    exact zq341
    rotate_left
    exact zq332
    refine take_ (i := 1) (N := some 57) (v := ?_) (a' := ?_) #[true, true, false, false, false] rfl rfl (by kernel_rfl) (fun _ _ _ h => h) (Or.inl ⟨by rfl, ?_⟩) hHeld ?_ ?_
    rotate_left
    exact zq341
    rotate_left
    exact zq332
    refine one_ (i := 2) (N := some 58) #[true, true, true, false, false] rfl rfl (by kernel_rfl) (by decide) (fun K hK => ?_)
    refine goes_ Try.func17 (by kernel_rfl) rfl #[.agg #[.int .i64 a0_0, .slice A0_1 l0_1.length c0_1, .slice A0_2 l0_2.length c0_2, .int .i64 a0_3]] (by rfl) rfl rfl zq8 ?_
    with_reducible refine (laws_toStore.calls kj15 a0_0 _ _ l0_1 _ _ l0_2 a0_3 t446 t447 t450 t453 _ ?side1 ?side2 ?side3 ?side4 A65.out).mono ?_
    (case side1 => exact zq11)
    (case side2 => exact zq12)
    (case side3 => exact zq15)
    (case side4 => exact zq16)
    rintro e w71 ⟨v448, v451, rfl, ho0, ho1, hb⟩
    refine ⟨_, rfl, ?_⟩
    have HO449 := Aside0.mk (Kd.R_lower (Kd.R_new' (Kd.R_new' (Kd.R_new' ho0 (Kd.R_lt zq135)) (Kd.R_lt zq137)) (Kd.R_lt zq139)) (below_size zq127))
    replace HO_426001 := Aside0.mk (Kd.R_elder' zq135 (Kd.R_base ho0) hb)
    replace HO_435001 := Aside0.mk (Kd.R_elder' zq137 (Kd.R_base ho0) hb)
    replace HO_445001 := Aside0.mk (Kd.R_elder' zq139 (Kd.R_base ho0) hb)
    have HO452 := Aside0.mk (Kd.R_lower (Kd.R_new' (Kd.R_new' (Kd.R_new' ho1 (Kd.R_lt zq136)) (Kd.R_lt zq138)) (Kd.R_lt zq140)) (below_size zq127))
    replace HO_426002 := Aside0.mk (Kd.R_elder' zq136 (Kd.R_base ho1) hb)
    replace HO_435002 := Aside0.mk (Kd.R_elder' zq138 (Kd.R_base ho1) hb)
    replace HO_445002 := Aside0.mk (Kd.R_elder' zq140 (Kd.R_base ho1) hb)
    replace BK406 := bF BK406 zq94 hb
    replace BK425 := bF BK425 zq106 hb
    replace BK434 := bF BK434 zq114 hb
    replace BK444 := bF BK444 zq134 hb
    replace HB := sB zq127 hb
    (try clear hb)
    (try clear hb2)
    (try clear hk)
    (try clear hi)
    (try clear ho0)
    (try clear ho1)
    obtain ⟨Ao72, co72, eo72⟩ := Kd.R_slice HO449.out
    (first | subst eo72 | (injection eo72 with f1_ f2_ f3_; have f4_ := f1_.symm; have f5_ := f3_.symm; clear f1_ f2_ f3_; subst f4_; subst f5_))
    obtain ⟨Ao73, co73, eo73⟩ := Kd.R_slice HO452.out
    (first | subst eo73 | (injection eo73 with f1_ f2_ f3_; have f4_ := f1_.symm; have f5_ := f3_.symm; clear f1_ f2_ f3_; subst f4_; subst f5_))
    refine hK.out _ _ ⟨(blk_cell BK434.out 0).trans rfl, (blk_cell BK434.out 1).trans rfl, (blk_cell BK434.out 2).trans rfl, (blk_cell BK434.out 3).trans rfl, (blk_cell BK406.out 0).trans rfl, (blk_cell BK406.out 1).trans rfl, (blk_cell BK406.out 2).trans rfl, (blk_cell BK406.out 3).trans rfl⟩ (fun hHeld => ?_)
    clear hK K
    refine norm_ (a' := ?_) ?_ ?_
    rotate_left
    ·
     show Act.put _ (some 58) _ = _
     simp only [Act.put, List.setIfInBounds_toArray, List.set_cons_zero, List.set_cons_succ, i64_w, i32_w]
     rfl
    refine one_ (i := 3) (N := some 59) #[true, true, true, true, false] rfl rfl (by kernel_rfl) (by decide) (fun K hK => ?_)
    refine goes_ Try.func19 (by kernel_rfl) rfl #[.agg #[.int .i64 t426, .slice Ao36 t427.length co36, .slice Ao37 t430.length co37, .int .i64 t433], .agg #[.int .i64 t446, .slice Ao72 t447.length co72, .slice Ao73 t450.length co73, .int .i64 t453]] (by rfl) rfl rfl zq8 ?_
    with_reducible refine (laws_eqStore.calls kj15 t426 _ _ t427 _ _ t430 t433 t446 _ _ t447 _ _ t450 t453 true _ ?side1 ?side2 ?side3 ?side4 ?side5 ?side6 ?side7 ?side8 A66.out).mono ?_
    (case side1 => exact zq141)
    (case side2 => exact (Kd.R_reads' HO_435001.out).2.1)
    (case side3 => exact zq142)
    (case side4 => exact (Kd.R_reads' HO_435002.out).2.1)
    (case side5 => exact zq143)
    (case side6 => exact (Kd.R_reads' HO449.out).2.1)
    (case side7 => exact zq144)
    (case side8 => exact (Kd.R_reads' HO452.out).2.1)
    rintro e w74 ⟨rfl, hb⟩
    refine ⟨_, rfl, ?_⟩
    replace HO_426001 := rB zq135 hb
    replace HO_426002 := rB zq136 hb
    replace HO_435001 := rB zq137 hb
    replace HO_435002 := rB zq138 hb
    replace HO_445001 := rB zq139 hb
    replace HO_445002 := rB zq140 hb
    replace HO449 := rB zq145 hb
    replace HO452 := rB zq146 hb
    replace BK406 := bF BK406 zq94 hb
    replace BK425 := bF BK425 zq106 hb
    replace BK434 := bF BK434 zq114 hb
    replace BK444 := bF BK444 zq134 hb
    replace HB := sB zq127 hb
    (try clear hb)
    (try clear hb2)
    (try clear hk)
    (try clear hi)
    refine hK.out _ _ ⟨(blk_cell BK434.out 0).trans rfl, (blk_cell BK434.out 1).trans rfl, (blk_cell BK434.out 2).trans rfl, (blk_cell BK434.out 3).trans rfl, (blk_cell BK406.out 0).trans rfl, (blk_cell BK406.out 1).trans rfl, (blk_cell BK406.out 2).trans rfl, (blk_cell BK406.out 3).trans rfl⟩ (fun hHeld => ?_)
    clear hK K
    refine norm_ (a' := ?_) ?_ ?_
    rotate_left
    exact zq335
    refine pure_ (i := 4) (N := some 60) (v := ?_) (a' := ?_) #[true, true, true, true, true] rfl rfl (by kernel_rfl) (fun _ _ _ h => h) (Or.inl ⟨by rfl, ?_⟩) ?_ ?_
    rotate_left
    exact zq331
    rotate_left
    exact zq332
    refine done_ (by kernel_rfl) ?_
    have hnb75 := NB434_406.out
    have hnc75 := NB406_434.out
    have hnb76 := NB434_425.out
    have hnc76 := NB425_434.out
    have hnb77 := NB434_444.out
    have hnc77 := NB444_434.out
    obtain ⟨hcz78_0, hcz78_1, hcz78_2, hcz78_3, hfz78_0, hfz78_1, hfz78_2, hfz78_3⟩ := c4 (w := w74) BK434
    go_upto_region 16 with (first | ((with_reducible refine gC 27 rfl ?_); refine gL 63 Try.func27 #[.agg #[.int .i64 t426, .slice Ao36 t427.length co36, .slice Ao37 t430.length co37, .int .i64 t433], .int .i64 1] ?_; (with_reducible refine (laws_markStore.calls kj15 t426 (fun k_ => some k_ = (.slice Ao36 t427.length co36 : Value).ownBlock) (.slice Ao36 t427.length co36) t427 (fun k_ => some k_ = (.slice Ao37 t430.length co37 : Value).ownBlock) (.slice Ao37 t430.length co37) t430 t433 1 t455 t456 t457 w _ ?_ ?_ ?_ A68.out).mono ?_); exact zq127; exact Kd.R_tight rfl HO_435001.out; exact Kd.R_tight rfl HO_435002.out; rintro e w79 ⟨rfl, hy0, hy1, hb, hkp⟩; refine ⟨_, rfl, ?_⟩; replace HO_426001 := Aside0.mk (Kd.R_mono (ok' := fun k_ => some k_ ≠ (.slice Ao36 t427.length co36 : Value).ownBlock ∧ some k_ ≠ (.slice Ao44 t436.length co44 : Value).ownBlock ∧ some k_ ≠ (.slice Ao72 t447.length co72 : Value).ownBlock) (Kd.R_keptB ((Kd.R_apart' HO_426001.out (Kd.R_typed HO_435002.out) (by decide))) hkp (fun k_ hk_ hs_ => Or.elim hs_ (fun e_ => by first | exact hk_.1.1.1 e_ | exact hk_.1.1 e_ | exact hk_.1.2 e_ | exact hk_.1.1.2 e_ | exact hk_.1.2.1 e_ | exact hk_.1.2.2 e_ | exact hk_.2 e_ | simp_all) (fun e_ => by first | exact hk_.2 e_ | exact hk_.1.1 e_ | exact hk_.1.2 e_ | exact hk_.1.1.1 e_ | exact hk_.1.1.2 e_ | exact hk_.1.2.1 e_ | exact hk_.1.2.2 e_ | simp_all))) (fun k_ hk_ => by first | exact ⟨hk_.1.1.1.1, hk_.1.1.1.2, hk_.1.1.2⟩ | simp_all)); replace HO_426002 := Aside0.mk (Kd.R_mono (ok' := fun k_ => some k_ ≠ (.slice Ao37 t430.length co37 : Value).ownBlock ∧ some k_ ≠ (.slice Ao45 t439.length co45 : Value).ownBlock ∧ some k_ ≠ (.slice Ao73 t450.length co73 : Value).ownBlock) (Kd.R_keptB ((Kd.R_apart' HO_426002.out (Kd.R_typed HO_435001.out) (by decide))) hkp (fun k_ hk_ hs_ => Or.elim hs_ (fun e_ => by first | exact hk_.2 e_ | exact hk_.1.1 e_ | exact hk_.1.2 e_ | exact hk_.1.1.1 e_ | exact hk_.1.1.2 e_ | exact hk_.1.2.1 e_ | exact hk_.1.2.2 e_ | simp_all) (fun e_ => by first | exact hk_.1.1.1 e_ | exact hk_.1.1 e_ | exact hk_.1.2 e_ | exact hk_.1.1.2 e_ | exact hk_.1.2.1 e_ | exact hk_.1.2.2 e_ | exact hk_.2 e_ | simp_all))) (fun k_ hk_ => by first | exact ⟨hk_.1.1.1.1, hk_.1.1.1.2, hk_.1.1.2⟩ | simp_all)); replace HO_445001 := Aside0.mk (Kd.R_mono (ok' := fun k_ => some k_ ≠ (.slice Ao28 t417.length co28 : Value).ownBlock ∧ some k_ ≠ (.slice Ao36 t427.length co36 : Value).ownBlock ∧ some k_ ≠ (.slice Ao72 t447.length co72 : Value).ownBlock) (Kd.R_keptB ((Kd.R_apart' HO_445001.out (Kd.R_typed HO_435002.out) (by decide))) hkp (fun k_ hk_ hs_ => Or.elim hs_ (fun e_ => by first | exact hk_.1.1.2 e_ | exact hk_.1.1 e_ | exact hk_.1.2 e_ | exact hk_.1.1.1 e_ | exact hk_.1.2.1 e_ | exact hk_.1.2.2 e_ | exact hk_.2 e_ | simp_all) (fun e_ => by first | exact hk_.2 e_ | exact hk_.1.1 e_ | exact hk_.1.2 e_ | exact hk_.1.1.1 e_ | exact hk_.1.1.2 e_ | exact hk_.1.2.1 e_ | exact hk_.1.2.2 e_ | simp_all))) (fun k_ hk_ => by first | exact ⟨hk_.1.1.1.1, hk_.1.1.1.2, hk_.1.1.2⟩ | simp_all)); replace HO_445002 := Aside0.mk (Kd.R_mono (ok' := fun k_ => some k_ ≠ (.slice Ao29 t420.length co29 : Value).ownBlock ∧ some k_ ≠ (.slice Ao37 t430.length co37 : Value).ownBlock ∧ some k_ ≠ (.slice Ao73 t450.length co73 : Value).ownBlock) (Kd.R_keptB ((Kd.R_apart' HO_445002.out (Kd.R_typed HO_435001.out) (by decide))) hkp (fun k_ hk_ hs_ => Or.elim hs_ (fun e_ => by first | exact hk_.2 e_ | exact hk_.1.1 e_ | exact hk_.1.2 e_ | exact hk_.1.1.1 e_ | exact hk_.1.1.2 e_ | exact hk_.1.2.1 e_ | exact hk_.1.2.2 e_ | simp_all) (fun e_ => by first | exact hk_.1.1.2 e_ | exact hk_.1.1 e_ | exact hk_.1.2 e_ | exact hk_.1.1.1 e_ | exact hk_.1.2.1 e_ | exact hk_.1.2.2 e_ | exact hk_.2 e_ | simp_all))) (fun k_ hk_ => by first | exact ⟨hk_.1.1.1.1, hk_.1.1.1.2, hk_.1.1.2⟩ | simp_all)); replace BK406 := Aside0.mk (blk_kept zq147 hkp (fun hs_ => Or.elim hs_ (fun e_ => (fun e_ => (Kd.R_ne HO_435001.out BK406.out (by decide)) e_) e_) (fun e_ => (fun e_ => (Kd.R_ne HO_435002.out BK406.out (by decide)) e_) e_))); replace BK425 := Aside0.mk (blk_kept zq148 hkp (fun hs_ => Or.elim hs_ (fun e_ => (fun e_ => (Kd.R_ne HO_435001.out BK425.out (by decide)) e_) e_) (fun e_ => (fun e_ => (Kd.R_ne HO_435002.out BK425.out (by decide)) e_) e_))); replace BK434 := Aside0.mk (blk_kept zq149 hkp (fun hs_ => Or.elim hs_ (fun e_ => (fun e_ => (Kd.R_ne HO_435001.out BK434.out (by decide)) e_) e_) (fun e_ => (fun e_ => (Kd.R_ne HO_435002.out BK434.out (by decide)) e_) e_))); replace BK444 := Aside0.mk (blk_kept zq150 hkp (fun hs_ => Or.elim hs_ (fun e_ => (fun e_ => (Kd.R_ne HO_435001.out BK444.out (by decide)) e_) e_) (fun e_ => (fun e_ => (Kd.R_ne HO_435002.out BK444.out (by decide)) e_) e_))); replace HO449 := Aside0.mk (Kd.R_mono (ok' := fun k_ => some k_ ≠ (.slice Ao28 t417.length co28 : Value).ownBlock ∧ some k_ ≠ (.slice Ao36 t427.length co36 : Value).ownBlock ∧ some k_ ≠ (.slice Ao44 t436.length co44 : Value).ownBlock) (Kd.R_keptB ((Kd.R_apart' HO449.out (Kd.R_typed HO_435002.out) (by decide))) hkp (fun k_ hk_ hs_ => Or.elim hs_ (fun e_ => by first | exact hk_.1.1.2 e_ | exact hk_.1.1 e_ | exact hk_.1.2 e_ | exact hk_.1.1.1 e_ | exact hk_.1.2.1 e_ | exact hk_.1.2.2 e_ | exact hk_.2 e_ | simp_all) (fun e_ => by first | exact hk_.2 e_ | exact hk_.1.1 e_ | exact hk_.1.2 e_ | exact hk_.1.1.1 e_ | exact hk_.1.1.2 e_ | exact hk_.1.2.1 e_ | exact hk_.1.2.2 e_ | simp_all))) (fun k_ hk_ => by first | exact ⟨hk_.1.1.1.1.2, hk_.1.1.1.2, hk_.1.1.2⟩ | simp_all)); replace HO_435002 := Aside0.mk (Kd.R_reok rfl hy1 (fun k_ e_ => HO_435002.out.1 k_ e_)); replace HO452 := Aside0.mk (Kd.R_mono (ok' := fun k_ => some k_ ≠ (.slice Ao29 t420.length co29 : Value).ownBlock ∧ some k_ ≠ (.slice Ao37 t430.length co37 : Value).ownBlock ∧ some k_ ≠ (.slice Ao45 t439.length co45 : Value).ownBlock) (Kd.R_keptB ((Kd.R_apart' HO452.out (Kd.R_typed HO_435001.out) (by decide))) hkp (fun k_ hk_ hs_ => Or.elim hs_ (fun e_ => by first | exact hk_.2 e_ | exact hk_.1.1 e_ | exact hk_.1.2 e_ | exact hk_.1.1.1 e_ | exact hk_.1.1.2 e_ | exact hk_.1.2.1 e_ | exact hk_.1.2.2 e_ | simp_all) (fun e_ => by first | exact hk_.1.1.2 e_ | exact hk_.1.1 e_ | exact hk_.1.2 e_ | exact hk_.1.1.1 e_ | exact hk_.1.2.1 e_ | exact hk_.1.2.2 e_ | exact hk_.2 e_ | simp_all))) (fun k_ hk_ => by first | exact ⟨hk_.1.1.1.1.2, hk_.1.1.1.2, hk_.1.1.2⟩ | simp_all)); replace HO_435001 := Aside0.mk (Kd.R_reok rfl hy0 (fun k_ e_ => HO_435001.out.1 k_ e_)); replace HB := Aside0.mk hb; clear hb; (try clear hkp); (try clear hy0); (try clear hy1)))
    (try simp only [Act.put, List.setIfInBounds_toArray, List.set_cons_zero, List.set_cons_succ])
    go_cut [76] (fun v76 wc => ∃ (kq : Nat) (x76_68 : Bool), v76 = .bool x76_68 ∧ Aside0 (laws_FnExactChunk.j1 kq a1 a2 a3 t424 x76_68 a0_0 l0_1 l0_2 a0_3 t416 t417 t420 t423 t435 t436 t439 t442 = some r) ∧ Aside0 (kq ≤ kj15) ∧ Aside0 (Kd.R k66 66 wc w.heap.size (fun k_ => some k_ ≠ ((.slice Ao36 t427.length co36) : Value).ownBlock ∧ some k_ ≠ ((.slice Ao44 t436.length co44) : Value).ownBlock) (.slice Ao28 t417.length co28) t417) ∧ Aside0 (Kd.R k68 68 wc w.heap.size (fun k_ => some k_ ≠ ((.slice Ao37 t430.length co37) : Value).ownBlock ∧ some k_ ≠ ((.slice Ao45 t439.length co45) : Value).ownBlock) (.slice Ao29 t420.length co29) t420) ∧ Aside0 (Kd.R k66 66 wc w.heap.size (fun k_ => some k_ ≠ ((.slice Ao28 t417.length co28) : Value).ownBlock ∧ some k_ ≠ ((.slice Ao44 t436.length co44) : Value).ownBlock) (.slice Ao36 t427.length co36) t456) ∧ Aside0 (Kd.R k68 68 wc w.heap.size (fun k_ => some k_ ≠ ((.slice Ao29 t420.length co29) : Value).ownBlock ∧ some k_ ≠ ((.slice Ao45 t439.length co45) : Value).ownBlock) (.slice Ao37 t430.length co37) t457) ∧ Aside0 (Kd.R k66 66 wc w.heap.size (fun k_ => some k_ ≠ ((.slice Ao28 t417.length co28) : Value).ownBlock ∧ some k_ ≠ ((.slice Ao36 t427.length co36) : Value).ownBlock) (.slice Ao44 t436.length co44) t436) ∧ Aside0 (Kd.R k68 68 wc w.heap.size (fun k_ => some k_ ≠ ((.slice Ao29 t420.length co29) : Value).ownBlock ∧ some k_ ≠ ((.slice Ao37 t430.length co37) : Value).ownBlock) (.slice Ao45 t439.length co45) t439) ∧ Aside0 (wc.heap[gb406]? = some (.cells #[.int .i64 a0_0, (.slice A0_1 l0_1.length c0_1), (.slice A0_2 l0_2.length c0_2), .int .i64 a0_3] 25 (0, 0))) ∧ Aside0 (wc.heap[gb425]? = some (.cells #[.int .i64 t416, (.slice Ao28 t417.length co28), (.slice Ao29 t420.length co29), .int .i64 t423] 31 (0, 0))) ∧ Aside0 (wc.heap[gb434]? = some (.cells #[.int .i64 t426, (.slice Ao36 t427.length co36), (.slice Ao37 t430.length co37), .int .i64 t433] 31 (0, 0))) ∧ Aside0 (wc.heap[gb444]? = some (.cells #[.int .i64 t435, (.slice Ao44 t436.length co44), (.slice Ao45 t439.length co45), .int .i64 t442] 31 (0, 0))) ∧ Aside0 (Below w.heap.size w wc))
    case first =>
     have H := HC69.out
     clear HC69
     by_cases c80 : t455 < 0
     ·
      rw [if_pos c80] at H
      have c80b0 := decide_eq_true c80
      clear c80
      (first | rw [c80b0] | (simp only [i64_w, i32_w]; rw [c80b0]) | skip)
      have H' := Aside0.mk H
      clear H
      go_wp2
      go_meet
      case rel => exact ⟨_, (true), zq6, H', ⟨zq151⟩, ⟨zq152⟩, ⟨zq153⟩, ⟨zq154⟩, ⟨zq155⟩, ⟨zq156⟩, ⟨zq157⟩, ⟨zq94⟩, ⟨zq106⟩, ⟨zq114⟩, ⟨zq134⟩, ⟨zq127⟩⟩
     rw [if_neg c80] at H
     have c80b0 := decide_eq_false c80
     clear c80
     (first | rw [c80b0] | (simp only [i64_w, i32_w]; rw [c80b0]) | skip)
     replace H := Option.bind_eq_some_iff.mp H
     obtain ⟨t458, A810, H⟩ := H
     try dsimp only at H
     have A81 := Aside0.mk A810
     clear A810
     by_cases c82 : t458 = true
     ·
      subst c82
      have H1 : (laws_FnExactChunk.j1 kj15 a1 a2 a3 t424 (t443 != t424) a0_0 l0_1 l0_2 a0_3 t416 t417 t420 t423 t435 t436 t439 t442) = some r := by rw [if_pos rfl] at H; exact H
      clear H
      have H := H1
      clear H1
      have H' := Aside0.mk H
      clear H
      have hnb83 := NB444_406.out
      have hnc83 := NB406_444.out
      have hnb84 := NB444_425.out
      have hnc84 := NB425_444.out
      have hnb85 := NB444_434.out
      have hnc85 := NB434_444.out
      obtain ⟨hcz86_0, hcz86_1, hcz86_2, hcz86_3, hfz86_0, hfz86_1, hfz86_2, hfz86_3⟩ := c4 (w := w79) BK444
      have hnb87 := NB425_406.out
      have hnc87 := NB406_425.out
      have hnb88 := NB425_434.out
      have hnc88 := NB434_425.out
      obtain ⟨hcz89_0, hcz89_1, hcz89_2, hcz89_3, hfz89_0, hfz89_1, hfz89_2, hfz89_3⟩ := c4 (w := w79) BK425
      go_wp2_with (first | (go_at_call 19; (with_reducible refine (laws_eqStore.calls kj15 t435 _ _ t436 _ _ t439 t442 t416 _ _ t417 _ _ t420 t423 true _ ?_ ?_ ?_ ?_ ?_ ?_ ?_ ?_ A81.out).mono ?_); exact zq158; exact zq159; exact zq160; exact zq161; exact zq162; exact zq163; exact zq164; exact zq165; rintro e w90 ⟨rfl, hb⟩; replace HO_426001 := rB zq135 hb; replace HO_426002 := rB zq136 hb; replace HO_435001 := rB zq137 hb; replace HO_435002 := rB zq138 hb; replace HO_445001 := rB zq139 hb; replace HO_445002 := rB zq140 hb; replace HO449 := rB zq145 hb; replace HO452 := rB zq146 hb; replace BK406 := bF BK406 zq94 hb; replace BK425 := bF BK425 zq106 hb; replace BK434 := bF BK434 zq114 hb; replace BK444 := bF BK444 zq134 hb; replace HB := sB zq127 hb; clear hb))
      go_meet
      case rel => exact ⟨_, ((t443 != t424)), zq6, H', ⟨zq151⟩, ⟨zq152⟩, ⟨zq153⟩, ⟨zq154⟩, ⟨zq155⟩, ⟨zq156⟩, ⟨zq157⟩, ⟨zq94⟩, ⟨zq106⟩, ⟨zq114⟩, ⟨zq134⟩, ⟨zq127⟩⟩
     replace c82 := Bool.eq_false_iff.mpr c82
     subst c82
     have H1 : (laws_FnExactChunk.j1 kj15 a1 a2 a3 t424 true a0_0 l0_1 l0_2 a0_3 t416 t417 t420 t423 t435 t436 t439 t442) = some r := by rw [if_neg (show ¬ (false = true) by decide)] at H; exact H
     clear H
     have H := H1
     clear H1
     have H' := Aside0.mk H
     clear H
     have hnb91 := NB444_406.out
     have hnc91 := NB406_444.out
     have hnb92 := NB444_425.out
     have hnc92 := NB425_444.out
     have hnb93 := NB444_434.out
     have hnc93 := NB434_444.out
     obtain ⟨hcz94_0, hcz94_1, hcz94_2, hcz94_3, hfz94_0, hfz94_1, hfz94_2, hfz94_3⟩ := c4 (w := w79) BK444
     have hnb95 := NB425_406.out
     have hnc95 := NB406_425.out
     have hnb96 := NB425_434.out
     have hnc96 := NB434_425.out
     obtain ⟨hcz97_0, hcz97_1, hcz97_2, hcz97_3, hfz97_0, hfz97_1, hfz97_2, hfz97_3⟩ := c4 (w := w79) BK425
     go_wp2_with (first | (go_at_call 19; (with_reducible refine (laws_eqStore.calls kj15 t435 _ _ t436 _ _ t439 t442 t416 _ _ t417 _ _ t420 t423 false _ ?_ ?_ ?_ ?_ ?_ ?_ ?_ ?_ A81.out).mono ?_); exact zq158; exact zq159; exact zq160; exact zq161; exact zq162; exact zq163; exact zq164; exact zq165; rintro e w98 ⟨rfl, hb⟩; replace HO_426001 := rB zq135 hb; replace HO_426002 := rB zq136 hb; replace HO_435001 := rB zq137 hb; replace HO_435002 := rB zq138 hb; replace HO_445001 := rB zq139 hb; replace HO_445002 := rB zq140 hb; replace HO449 := rB zq145 hb; replace HO452 := rB zq146 hb; replace BK406 := bF BK406 zq94 hb; replace BK425 := bF BK425 zq106 hb; replace BK434 := bF BK434 zq114 hb; replace BK444 := bF BK444 zq134 hb; replace HB := sB zq127 hb; clear hb))
     go_meet
     case rel => exact ⟨_, (true), zq6, H', ⟨zq151⟩, ⟨zq152⟩, ⟨zq153⟩, ⟨zq154⟩, ⟨zq155⟩, ⟨zq156⟩, ⟨zq157⟩, ⟨zq94⟩, ⟨zq106⟩, ⟨zq114⟩, ⟨zq134⟩, ⟨zq127⟩⟩
    case rest =>
     clear HC69
     try clear c1
     try clear c2
     try clear p2
     try clear c3
     try clear c4
     try clear c5
     try clear c5b0
     try clear c5b1
     try clear c6
     try clear c7
     try clear c8
     try clear c8b0
     try clear c9
     try clear c15
     try clear c17
     try clear c19
     try clear c26
     try clear c27
     try clear c33
     try clear c34
     try clear c35
     try clear c36
     try clear c40
     try clear c41
     try clear c42
     try clear c47
     try clear c48
     try clear c49
     try clear c50
     try clear c52
     try clear c53
     try clear c56
     try clear c57
     try clear c58
     try clear c60
     try clear c61
     try clear c64
     try clear c67
     try clear c75
     try clear c76
     try clear c77
     try clear c80
     try clear c80b0
     try clear c82
     try clear c83
     try clear c84
     try clear c85
     try clear c87
     try clear c88
     try clear c91
     try clear c92
     try clear c93
     try clear c95
     try clear c96
     try clear hcz10_0
     try clear hcz10_1
     try clear hcz10_2
     try clear hcz10_3
     try clear hcz18_0
     try clear hcz18_1
     try clear hcz18_2
     try clear hcz18_3
     try clear hcz20_0
     try clear hcz20_1
     try clear hcz20_2
     try clear hcz20_3
     try clear hcz27_0
     try clear hcz27_1
     try clear hcz27_2
     try clear hcz27_3
     try clear hcz30_0
     try clear hcz30_1
     try clear hcz30_2
     try clear hcz30_3
     try clear hcz35_0
     try clear hcz35_1
     try clear hcz35_2
     try clear hcz35_3
     try clear hcz43_0
     try clear hcz43_1
     try clear hcz43_2
     try clear hcz43_3
     try clear hcz51_0
     try clear hcz51_1
     try clear hcz51_2
     try clear hcz51_3
     try clear hcz54_0
     try clear hcz54_1
     try clear hcz54_2
     try clear hcz54_3
     try clear hcz59_0
     try clear hcz59_1
     try clear hcz59_2
     try clear hcz59_3
     try clear hcz62_0
     try clear hcz62_1
     try clear hcz62_2
     try clear hcz62_3
     try clear hcz78_0
     try clear hcz78_1
     try clear hcz78_2
     try clear hcz78_3
     try clear hcz86_0
     try clear hcz86_1
     try clear hcz86_2
     try clear hcz86_3
     try clear hcz89_0
     try clear hcz89_1
     try clear hcz89_2
     try clear hcz89_3
     try clear hcz94_0
     try clear hcz94_1
     try clear hcz94_2
     try clear hcz94_3
     try clear hcz97_0
     try clear hcz97_1
     try clear hcz97_2
     try clear hcz97_3
     try clear hfz10_0
     try clear hfz10_1
     try clear hfz10_2
     try clear hfz10_3
     try clear hfz18_0
     try clear hfz18_1
     try clear hfz18_2
     try clear hfz18_3
     try clear hfz20_0
     try clear hfz20_1
     try clear hfz20_2
     try clear hfz20_3
     try clear hfz27_0
     try clear hfz27_1
     try clear hfz27_2
     try clear hfz27_3
     try clear hfz30_0
     try clear hfz30_1
     try clear hfz30_2
     try clear hfz30_3
     try clear hfz35_0
     try clear hfz35_1
     try clear hfz35_2
     try clear hfz35_3
     try clear hfz43_0
     try clear hfz43_1
     try clear hfz43_2
     try clear hfz43_3
     try clear hfz51_0
     try clear hfz51_1
     try clear hfz51_2
     try clear hfz51_3
     try clear hfz54_0
     try clear hfz54_1
     try clear hfz54_2
     try clear hfz54_3
     try clear hfz59_0
     try clear hfz59_1
     try clear hfz59_2
     try clear hfz59_3
     try clear hfz62_0
     try clear hfz62_1
     try clear hfz62_2
     try clear hfz62_3
     try clear hfz78_0
     try clear hfz78_1
     try clear hfz78_2
     try clear hfz78_3
     try clear hfz86_0
     try clear hfz86_1
     try clear hfz86_2
     try clear hfz86_3
     try clear hfz89_0
     try clear hfz89_1
     try clear hfz89_2
     try clear hfz89_3
     try clear hfz94_0
     try clear hfz94_1
     try clear hfz94_2
     try clear hfz94_3
     try clear hfz97_0
     try clear hfz97_1
     try clear hfz97_2
     try clear hfz97_3
     try clear p2
     obtain ⟨kq, x76_68, rfl, HA, HJ68, HO_426001, HO_426002, HO_435001, HO_435002, HO_445001, HO_445002, BK406, BK425, BK434, BK444, HB⟩ := hcut
     have hl435001_68 := (Kd.R_reads' HO_435001.out).1
     rw [hl435001_68] at HO_435001
     (try simp only [hl435001_68])
     (try simp only [hl435001_68] at BK406)
     (try simp only [hl435001_68] at BK425)
     (try simp only [hl435001_68] at BK434)
     (try simp only [hl435001_68] at BK444)
     (try simp only [hl435001_68] at HO_426001)
     (try simp only [hl435001_68] at HO_426002)
     (try simp only [hl435001_68] at HO_435002)
     (try simp only [hl435001_68] at HO_445001)
     (try simp only [hl435001_68] at HO_445002)
     have hl435002_68 := (Kd.R_reads' HO_435002.out).1
     rw [hl435002_68] at HO_435002
     (try simp only [hl435002_68])
     (try simp only [hl435002_68] at BK406)
     (try simp only [hl435002_68] at BK425)
     (try simp only [hl435002_68] at BK434)
     (try simp only [hl435002_68] at BK444)
     (try simp only [hl435002_68] at HO_426001)
     (try simp only [hl435002_68] at HO_426002)
     (try simp only [hl435002_68] at HO_435001)
     (try simp only [hl435002_68] at HO_445001)
     (try simp only [hl435002_68] at HO_445002)
     cases kq with
     | zero => exact absurd HA.out (by simp [laws_FnExactChunk.j1])
     | succ kj68 =>
      have H := HA.out
      clear HA
      simp only [laws_FnExactChunk.j1] at H
      by_cases c99 : x76_68 = true
      ·
       subst c99
       have H1 : (some false) = some r := by rw [if_pos rfl] at H; exact H
       clear H
       have H := H1
       clear H1
       obtain rfl := Option.some.inj H
       go_wp2
       go_ret
       exact ⟨zq4, zq127⟩
      replace c99 := Bool.eq_false_iff.mpr c99
      subst c99
      have H1 : ((laws_markStore.f kj68 t435 t436 t439 t442 1).bind fun bt459 => ((laws_heldStore.f kj68 t435 bt459.2.1 bt459.2.2 t442 1).bind fun t462 => (if t462 < 0 then (some false) else (if t462 = bt459.1 then ((laws_toStore.f kj68 a0_0 l0_1 l0_2 a0_3).bind fun bt463 => ((impl_Chunk.f kj68 bt463.1 bt463.2.1 bt463.2.2.1 bt463.2.2.2 a1 a2 a3).bind fun bt471 => ((laws_eqStore.f kj68 bt471.1 bt471.2.1 bt471.2.2.1 bt471.2.2.2.1 t416 t417 t420 t423).bind fun t481 => (if t481 = true then (laws_FnExactChunk.j2 kj68 bt459.1 (bt471.2.2.2.2 != t424) t435 bt459.2.1 bt459.2.2 t442) else (laws_FnExactChunk.j2 kj68 bt459.1 true t435 bt459.2.1 bt459.2.2 t442))))) else (some false))))) = some r := by rw [if_neg (show ¬ (false = true) by decide)] at H; exact H
      clear H
      have H := H1
      clear H1
      replace H := Option.bind_eq_some_iff.mp H
      obtain ⟨⟨t459, t460, t461⟩, A1000, H⟩ := H
      try dsimp only at H
      have A100 := Aside0.mk A1000
      clear A1000
      replace H := Option.bind_eq_some_iff.mp H
      obtain ⟨t462, A1010, H⟩ := H
      try dsimp only at H
      have A101 := Aside0.mk A1010
      clear A1010
      by_cases c102 : t462 < 0
      ·
       rw [if_pos c102] at H
       have c102b0 := decide_eq_true c102
       clear c102
       obtain rfl := Option.some.inj H
       have hnb103 := NB444_406.out
       have hnc103 := NB406_444.out
       have hnb104 := NB444_425.out
       have hnc104 := NB425_444.out
       have hnb105 := NB444_434.out
       have hnc105 := NB434_444.out
       obtain ⟨hcz106_0, hcz106_1, hcz106_2, hcz106_3, hfz106_0, hfz106_1, hfz106_2, hfz106_3⟩ := c4 (w := wc) BK444
       go_wp2_with (first | ((with_reducible refine gC 27 rfl ?_); refine gL 79 Try.func27 #[.agg #[.int .i64 t435, .slice Ao44 t436.length co44, .slice Ao45 t439.length co45, .int .i64 t442], .int .i64 1] ?_; (with_reducible refine (laws_markStore.calls kj68 t435 (fun k_ => some k_ = (.slice Ao44 t436.length co44 : Value).ownBlock) (.slice Ao44 t436.length co44) t436 (fun k_ => some k_ = (.slice Ao45 t439.length co45 : Value).ownBlock) (.slice Ao45 t439.length co45) t439 t442 1 t459 t460 t461 w _ ?_ ?_ ?_ A100.out).mono ?_); exact zq127; exact zq166; exact zq167; rintro e w107 ⟨rfl, hy0, hy1, hb, hkp⟩; refine ⟨_, rfl, ?_⟩; replace HO_426001 := Aside0.mk (Kd.R_mono (ok' := fun k_ => some k_ ≠ (.slice Ao36 t456.length co36 : Value).ownBlock ∧ some k_ ≠ (.slice Ao44 t436.length co44 : Value).ownBlock) (Kd.R_keptB ((Kd.R_apart' HO_426001.out (Kd.R_typed HO_445002.out) (by decide))) hkp (fun k_ hk_ hs_ => Or.elim hs_ (fun e_ => by first | exact hk_.1.2 e_ | exact hk_.1.1 e_ | exact hk_.1.1.1 e_ | exact hk_.1.1.2 e_ | exact hk_.1.2.1 e_ | exact hk_.1.2.2 e_ | exact hk_.2 e_ | simp_all) (fun e_ => by first | exact hk_.2 e_ | exact hk_.1.1 e_ | exact hk_.1.2 e_ | exact hk_.1.1.1 e_ | exact hk_.1.1.2 e_ | exact hk_.1.2.1 e_ | exact hk_.1.2.2 e_ | simp_all))) (fun k_ hk_ => by first | exact ⟨hk_.1.1.1, hk_.1.1.2⟩ | simp_all)); replace HO_426002 := Aside0.mk (Kd.R_mono (ok' := fun k_ => some k_ ≠ (.slice Ao37 t457.length co37 : Value).ownBlock ∧ some k_ ≠ (.slice Ao45 t439.length co45 : Value).ownBlock) (Kd.R_keptB ((Kd.R_apart' HO_426002.out (Kd.R_typed HO_445001.out) (by decide))) hkp (fun k_ hk_ hs_ => Or.elim hs_ (fun e_ => by first | exact hk_.2 e_ | exact hk_.1.1 e_ | exact hk_.1.2 e_ | exact hk_.1.1.1 e_ | exact hk_.1.1.2 e_ | exact hk_.1.2.1 e_ | exact hk_.1.2.2 e_ | simp_all) (fun e_ => by first | exact hk_.1.2 e_ | exact hk_.1.1 e_ | exact hk_.1.1.1 e_ | exact hk_.1.1.2 e_ | exact hk_.1.2.1 e_ | exact hk_.1.2.2 e_ | exact hk_.2 e_ | simp_all))) (fun k_ hk_ => by first | exact ⟨hk_.1.1.1, hk_.1.1.2⟩ | simp_all)); replace HO_435001 := Aside0.mk (Kd.R_mono (ok' := fun k_ => some k_ ≠ (.slice Ao28 t417.length co28 : Value).ownBlock ∧ some k_ ≠ (.slice Ao44 t436.length co44 : Value).ownBlock) (Kd.R_keptB ((Kd.R_apart' HO_435001.out (Kd.R_typed HO_445002.out) (by decide))) hkp (fun k_ hk_ hs_ => Or.elim hs_ (fun e_ => by first | exact hk_.1.2 e_ | exact hk_.1.1 e_ | exact hk_.1.1.1 e_ | exact hk_.1.1.2 e_ | exact hk_.1.2.1 e_ | exact hk_.1.2.2 e_ | exact hk_.2 e_ | simp_all) (fun e_ => by first | exact hk_.2 e_ | exact hk_.1.1 e_ | exact hk_.1.2 e_ | exact hk_.1.1.1 e_ | exact hk_.1.1.2 e_ | exact hk_.1.2.1 e_ | exact hk_.1.2.2 e_ | simp_all))) (fun k_ hk_ => by first | exact ⟨hk_.1.1.1, hk_.1.1.2⟩ | simp_all)); replace HO_435002 := Aside0.mk (Kd.R_mono (ok' := fun k_ => some k_ ≠ (.slice Ao29 t420.length co29 : Value).ownBlock ∧ some k_ ≠ (.slice Ao45 t439.length co45 : Value).ownBlock) (Kd.R_keptB ((Kd.R_apart' HO_435002.out (Kd.R_typed HO_445001.out) (by decide))) hkp (fun k_ hk_ hs_ => Or.elim hs_ (fun e_ => by first | exact hk_.2 e_ | exact hk_.1.1 e_ | exact hk_.1.2 e_ | exact hk_.1.1.1 e_ | exact hk_.1.1.2 e_ | exact hk_.1.2.1 e_ | exact hk_.1.2.2 e_ | simp_all) (fun e_ => by first | exact hk_.1.2 e_ | exact hk_.1.1 e_ | exact hk_.1.1.1 e_ | exact hk_.1.1.2 e_ | exact hk_.1.2.1 e_ | exact hk_.1.2.2 e_ | exact hk_.2 e_ | simp_all))) (fun k_ hk_ => by first | exact ⟨hk_.1.1.1, hk_.1.1.2⟩ | simp_all)); replace BK406 := Aside0.mk (blk_kept zq147 hkp (fun hs_ => Or.elim hs_ (fun e_ => (fun e_ => (Kd.R_ne HO_445001.out BK406.out (by decide)) e_) e_) (fun e_ => (fun e_ => (Kd.R_ne HO_445002.out BK406.out (by decide)) e_) e_))); replace BK425 := Aside0.mk (blk_kept zq148 hkp (fun hs_ => Or.elim hs_ (fun e_ => (fun e_ => (Kd.R_ne HO_445001.out BK425.out (by decide)) e_) e_) (fun e_ => (fun e_ => (Kd.R_ne HO_445002.out BK425.out (by decide)) e_) e_))); replace BK434 := Aside0.mk (blk_kept zq149 hkp (fun hs_ => Or.elim hs_ (fun e_ => (fun e_ => (Kd.R_ne HO_445001.out BK434.out (by decide)) e_) e_) (fun e_ => (fun e_ => (Kd.R_ne HO_445002.out BK434.out (by decide)) e_) e_))); replace BK444 := Aside0.mk (blk_kept zq150 hkp (fun hs_ => Or.elim hs_ (fun e_ => (fun e_ => (Kd.R_ne HO_445001.out BK444.out (by decide)) e_) e_) (fun e_ => (fun e_ => (Kd.R_ne HO_445002.out BK444.out (by decide)) e_) e_))); replace HO_445001 := Aside0.mk (Kd.R_reok rfl hy0 (fun k_ e_ => HO_445001.out.1 k_ e_)); replace HO_445002 := Aside0.mk (Kd.R_reok rfl hy1 (fun k_ e_ => HO_445002.out.1 k_ e_)); replace HB := Aside0.mk hb; clear hb; (try clear hkp); (try clear hy0); (try clear hy1); obtain ⟨hcz108_0, hcz108_1, hcz108_2, hcz108_3, hfz108_0, hfz108_1, hfz108_2, hfz108_3⟩ := c4 (w := w107) BK444) | ((with_reducible refine gC 32 rfl ?_); refine gL 82 Try.func32 #[.agg #[.int .i64 t435, .slice Ao44 t460.length co44, .slice Ao45 t461.length co45, .int .i64 t442], .int .i64 1] ?_ (hargs := by (try simp only [List.map_toArray, List.map_cons, List.map_nil]); first | done | (rw [show t460.length = t436.length from (Kd.R_reads' HO_445001.out).1.symm, show t461.length = t439.length from (Kd.R_reads' HO_445002.out).1.symm] <;> rfl) | rfl | (simp only [List.length_drop, List.length_take]; rfl)); (with_reducible refine (laws_heldStore.calls kj68 t435 _ _ t460 _ _ t461 t442 1 t462 _ ?_ ?_ ?_ ?_ A101.out).mono ?_); exact zq158; exact zq169; exact zq160; exact zq170; rintro e w109 ⟨rfl, hb⟩; refine ⟨_, rfl, ?_⟩; replace HO_426001 := rB zq135 hb; replace HO_426002 := rB zq136 hb; replace HO_435001 := rB zq137 hb; replace HO_435002 := rB zq138 hb; replace HO_445001 := rB zq139 hb; replace HO_445002 := rB zq140 hb; replace BK406 := bF BK406 zq94 hb; replace BK425 := bF BK425 zq106 hb; replace BK434 := bF BK434 zq114 hb; replace BK444 := bF BK444 zq134 hb; replace HB := sB zq127 hb; clear hb))
       go_ret
       exact ⟨zq4, zq127⟩
      rw [if_neg c102] at H
      have c102b0 := decide_eq_false c102
      clear c102
      by_cases c110 : t462 = t459
      ·
       rw [if_pos c110] at H
       have c110b0 : (t462 == t459) = true := beq_iff_eq.mpr c110
       have c110b1 : (t462 != t459) = false := bne_eq_false_iff_eq.mpr c110
       clear c110
       replace H := Option.bind_eq_some_iff.mp H
       obtain ⟨⟨t463, t464, t467, t470⟩, A1110, H⟩ := H
       try dsimp only at H
       have A111 := Aside0.mk A1110
       clear A1110
       replace H := Option.bind_eq_some_iff.mp H
       obtain ⟨⟨t471, t472, t475, t478, t479⟩, A1120, H⟩ := H
       try dsimp only at H
       have A112 := Aside0.mk A1120
       clear A1120
       have HC113 := Aside0.mk H
       clear H
       have hnb114 := NB444_406.out
       have hnc114 := NB406_444.out
       have hnb115 := NB444_425.out
       have hnc115 := NB425_444.out
       have hnb116 := NB444_434.out
       have hnc116 := NB434_444.out
       obtain ⟨hcz117_0, hcz117_1, hcz117_2, hcz117_3, hfz117_0, hfz117_1, hfz117_2, hfz117_3⟩ := c4 (w := wc) BK444
       go_upto_region 27 with (first | ((with_reducible refine gC 27 rfl ?_); refine gL 79 Try.func27 #[.agg #[.int .i64 t435, .slice Ao44 t436.length co44, .slice Ao45 t439.length co45, .int .i64 t442], .int .i64 1] ?_; (with_reducible refine (laws_markStore.calls kj68 t435 (fun k_ => some k_ = (.slice Ao44 t436.length co44 : Value).ownBlock) (.slice Ao44 t436.length co44) t436 (fun k_ => some k_ = (.slice Ao45 t439.length co45 : Value).ownBlock) (.slice Ao45 t439.length co45) t439 t442 1 t459 t460 t461 w _ ?_ ?_ ?_ A100.out).mono ?_); exact zq127; exact zq166; exact zq167; rintro e w118 ⟨rfl, hy0, hy1, hb, hkp⟩; refine ⟨_, rfl, ?_⟩; replace HO_426001 := Aside0.mk (Kd.R_mono (ok' := fun k_ => some k_ ≠ (.slice Ao36 t456.length co36 : Value).ownBlock ∧ some k_ ≠ (.slice Ao44 t436.length co44 : Value).ownBlock) (Kd.R_keptB ((Kd.R_apart' HO_426001.out (Kd.R_typed HO_445002.out) (by decide))) hkp (fun k_ hk_ hs_ => Or.elim hs_ (fun e_ => by first | exact hk_.1.2 e_ | exact hk_.1.1 e_ | exact hk_.1.1.1 e_ | exact hk_.1.1.2 e_ | exact hk_.1.2.1 e_ | exact hk_.1.2.2 e_ | exact hk_.2 e_ | simp_all) (fun e_ => by first | exact hk_.2 e_ | exact hk_.1.1 e_ | exact hk_.1.2 e_ | exact hk_.1.1.1 e_ | exact hk_.1.1.2 e_ | exact hk_.1.2.1 e_ | exact hk_.1.2.2 e_ | simp_all))) (fun k_ hk_ => by first | exact ⟨hk_.1.1.1, hk_.1.1.2⟩ | simp_all)); replace HO_426002 := Aside0.mk (Kd.R_mono (ok' := fun k_ => some k_ ≠ (.slice Ao37 t457.length co37 : Value).ownBlock ∧ some k_ ≠ (.slice Ao45 t439.length co45 : Value).ownBlock) (Kd.R_keptB ((Kd.R_apart' HO_426002.out (Kd.R_typed HO_445001.out) (by decide))) hkp (fun k_ hk_ hs_ => Or.elim hs_ (fun e_ => by first | exact hk_.2 e_ | exact hk_.1.1 e_ | exact hk_.1.2 e_ | exact hk_.1.1.1 e_ | exact hk_.1.1.2 e_ | exact hk_.1.2.1 e_ | exact hk_.1.2.2 e_ | simp_all) (fun e_ => by first | exact hk_.1.2 e_ | exact hk_.1.1 e_ | exact hk_.1.1.1 e_ | exact hk_.1.1.2 e_ | exact hk_.1.2.1 e_ | exact hk_.1.2.2 e_ | exact hk_.2 e_ | simp_all))) (fun k_ hk_ => by first | exact ⟨hk_.1.1.1, hk_.1.1.2⟩ | simp_all)); replace HO_435001 := Aside0.mk (Kd.R_mono (ok' := fun k_ => some k_ ≠ (.slice Ao28 t417.length co28 : Value).ownBlock ∧ some k_ ≠ (.slice Ao44 t436.length co44 : Value).ownBlock) (Kd.R_keptB ((Kd.R_apart' HO_435001.out (Kd.R_typed HO_445002.out) (by decide))) hkp (fun k_ hk_ hs_ => Or.elim hs_ (fun e_ => by first | exact hk_.1.2 e_ | exact hk_.1.1 e_ | exact hk_.1.1.1 e_ | exact hk_.1.1.2 e_ | exact hk_.1.2.1 e_ | exact hk_.1.2.2 e_ | exact hk_.2 e_ | simp_all) (fun e_ => by first | exact hk_.2 e_ | exact hk_.1.1 e_ | exact hk_.1.2 e_ | exact hk_.1.1.1 e_ | exact hk_.1.1.2 e_ | exact hk_.1.2.1 e_ | exact hk_.1.2.2 e_ | simp_all))) (fun k_ hk_ => by first | exact ⟨hk_.1.1.1, hk_.1.1.2⟩ | simp_all)); replace HO_435002 := Aside0.mk (Kd.R_mono (ok' := fun k_ => some k_ ≠ (.slice Ao29 t420.length co29 : Value).ownBlock ∧ some k_ ≠ (.slice Ao45 t439.length co45 : Value).ownBlock) (Kd.R_keptB ((Kd.R_apart' HO_435002.out (Kd.R_typed HO_445001.out) (by decide))) hkp (fun k_ hk_ hs_ => Or.elim hs_ (fun e_ => by first | exact hk_.2 e_ | exact hk_.1.1 e_ | exact hk_.1.2 e_ | exact hk_.1.1.1 e_ | exact hk_.1.1.2 e_ | exact hk_.1.2.1 e_ | exact hk_.1.2.2 e_ | simp_all) (fun e_ => by first | exact hk_.1.2 e_ | exact hk_.1.1 e_ | exact hk_.1.1.1 e_ | exact hk_.1.1.2 e_ | exact hk_.1.2.1 e_ | exact hk_.1.2.2 e_ | exact hk_.2 e_ | simp_all))) (fun k_ hk_ => by first | exact ⟨hk_.1.1.1, hk_.1.1.2⟩ | simp_all)); replace BK406 := Aside0.mk (blk_kept zq147 hkp (fun hs_ => Or.elim hs_ (fun e_ => (fun e_ => (Kd.R_ne HO_445001.out BK406.out (by decide)) e_) e_) (fun e_ => (fun e_ => (Kd.R_ne HO_445002.out BK406.out (by decide)) e_) e_))); replace BK425 := Aside0.mk (blk_kept zq148 hkp (fun hs_ => Or.elim hs_ (fun e_ => (fun e_ => (Kd.R_ne HO_445001.out BK425.out (by decide)) e_) e_) (fun e_ => (fun e_ => (Kd.R_ne HO_445002.out BK425.out (by decide)) e_) e_))); replace BK434 := Aside0.mk (blk_kept zq149 hkp (fun hs_ => Or.elim hs_ (fun e_ => (fun e_ => (Kd.R_ne HO_445001.out BK434.out (by decide)) e_) e_) (fun e_ => (fun e_ => (Kd.R_ne HO_445002.out BK434.out (by decide)) e_) e_))); replace BK444 := Aside0.mk (blk_kept zq150 hkp (fun hs_ => Or.elim hs_ (fun e_ => (fun e_ => (Kd.R_ne HO_445001.out BK444.out (by decide)) e_) e_) (fun e_ => (fun e_ => (Kd.R_ne HO_445002.out BK444.out (by decide)) e_) e_))); replace HO_445001 := Aside0.mk (Kd.R_reok rfl hy0 (fun k_ e_ => HO_445001.out.1 k_ e_)); replace HO_445002 := Aside0.mk (Kd.R_reok rfl hy1 (fun k_ e_ => HO_445002.out.1 k_ e_)); replace HB := Aside0.mk hb; clear hb; (try clear hkp); (try clear hy0); (try clear hy1); obtain ⟨hcz119_0, hcz119_1, hcz119_2, hcz119_3, hfz119_0, hfz119_1, hfz119_2, hfz119_3⟩ := c4 (w := w118) BK444) | ((with_reducible refine gC 32 rfl ?_); refine gL 82 Try.func32 #[.agg #[.int .i64 t435, .slice Ao44 t460.length co44, .slice Ao45 t461.length co45, .int .i64 t442], .int .i64 1] ?_ (hargs := by (try simp only [List.map_toArray, List.map_cons, List.map_nil]); first | done | (rw [show t460.length = t436.length from (Kd.R_reads' HO_445001.out).1.symm, show t461.length = t439.length from (Kd.R_reads' HO_445002.out).1.symm] <;> rfl) | rfl | (simp only [List.length_drop, List.length_take]; rfl)); (with_reducible refine (laws_heldStore.calls kj68 t435 _ _ t460 _ _ t461 t442 1 t462 _ ?_ ?_ ?_ ?_ A101.out).mono ?_); exact zq158; exact zq169; exact zq160; exact zq170; rintro e w120 ⟨rfl, hb⟩; refine ⟨_, rfl, ?_⟩; replace HO_426001 := rB zq135 hb; replace HO_426002 := rB zq136 hb; replace HO_435001 := rB zq137 hb; replace HO_435002 := rB zq138 hb; replace HO_445001 := rB zq139 hb; replace HO_445002 := rB zq140 hb; replace BK406 := bF BK406 zq94 hb; replace BK425 := bF BK425 zq106 hb; replace BK434 := bF BK434 zq114 hb; replace BK444 := bF BK444 zq134 hb; replace HB := sB zq127 hb; clear hb; have hnb121 := NB406_425.out; have hnc121 := NB425_406.out; have hnb122 := NB406_434.out; have hnc122 := NB434_406.out; obtain ⟨hcz123_0, hcz123_1, hcz123_2, hcz123_3, hfz123_0, hfz123_1, hfz123_2, hfz123_3⟩ := c4 (w := w120) BK406) | ((with_reducible refine gC 17 rfl ?_); refine gL 90 Try.func17 #[.agg #[.int .i64 a0_0, .slice A0_1 l0_1.length c0_1, .slice A0_2 l0_2.length c0_2, .int .i64 a0_3]] ?_; (with_reducible refine (laws_toStore.calls kj68 a0_0 _ _ l0_1 _ _ l0_2 a0_3 t463 t464 t467 t470 _ ?_ ?_ ?_ ?_ A111.out).mono ?_); exact zq11; exact zq12; exact zq15; exact zq16; rintro e w124 ⟨v465, v468, rfl, ho0, ho1, hb⟩; refine ⟨_, rfl, ?_⟩; have HO466 := Aside0.mk (Kd.R_lower (Kd.R_new' (Kd.R_new' (Kd.R_new' ho0 (Kd.R_lt zq135)) (Kd.R_lt zq137)) (Kd.R_lt zq139)) (below_size zq127)); replace HO_426001 := Aside0.mk (Kd.R_elder' zq135 (Kd.R_base ho0) hb); replace HO_435001 := Aside0.mk (Kd.R_elder' zq137 (Kd.R_base ho0) hb); replace HO_445001 := Aside0.mk (Kd.R_elder' zq139 (Kd.R_base ho0) hb); have HO469 := Aside0.mk (Kd.R_lower (Kd.R_new' (Kd.R_new' (Kd.R_new' ho1 (Kd.R_lt zq136)) (Kd.R_lt zq138)) (Kd.R_lt zq140)) (below_size zq127)); replace HO_426002 := Aside0.mk (Kd.R_elder' zq136 (Kd.R_base ho1) hb); replace HO_435002 := Aside0.mk (Kd.R_elder' zq138 (Kd.R_base ho1) hb); replace HO_445002 := Aside0.mk (Kd.R_elder' zq140 (Kd.R_base ho1) hb); replace BK406 := bF BK406 zq94 hb; replace BK425 := bF BK425 zq106 hb; replace BK434 := bF BK434 zq114 hb; replace BK444 := bF BK444 zq134 hb; replace HB := sB zq127 hb; clear hb; (try clear ho0); (try clear ho1); obtain ⟨Ao125, co125, eo125⟩ := Kd.R_slice HO466.out; subst eo125; obtain ⟨Ao126, co126, eo126⟩ := Kd.R_slice HO469.out; subst eo126) | ((with_reducible refine gC 36 rfl ?_); refine gL 94 Try.func36 #[.agg #[.int .i64 t463, .slice Ao125 t464.length co125, .slice Ao126 t467.length co126, .int .i64 t470], .int .i64 a1, .int .i64 a2, .string a3] ?_; (with_reducible refine (impl_Chunk.calls kj68 t463 _ _ t464 _ _ t467 t470 a1 a2 a3 t471 t472 t475 t478 t479 _ ?side1 ?_ ?side3 ?_ A112.out).mono ?_); (case side1 => repeat (first | exact (Kd.R_reads' HO466.out).2.2 | (with_reducible refine Kd.C_alloc ?_ _) | (with_reducible refine Kd.C_drewN ?_ _) | (with_reducible refine Kd.C_drew ?_))); exact (Kd.R_reads' HO466.out).2.1; (case side3 => repeat (first | exact (Kd.R_reads' HO469.out).2.2 | (with_reducible refine Kd.C_alloc ?_ _) | (with_reducible refine Kd.C_drewN ?_ _) | (with_reducible refine Kd.C_drew ?_))); exact (Kd.R_reads' HO469.out).2.1; rintro e w127 ⟨v473, v476, rfl, ho0, ho1, hb⟩; refine ⟨_, rfl, ?_⟩; have HO474 := Aside0.mk (Kd.R_lower (Kd.R_new' (Kd.R_new' (Kd.R_new' (Kd.R_new' ho0 (Kd.R_lt zq135)) (Kd.R_lt zq137)) (Kd.R_lt zq139)) (Kd.R_lt zq171)) (below_size zq127)); replace HO_426001 := Aside0.mk (Kd.R_elder' zq135 (Kd.R_base ho0) hb); replace HO_435001 := Aside0.mk (Kd.R_elder' zq137 (Kd.R_base ho0) hb); replace HO_445001 := Aside0.mk (Kd.R_elder' zq139 (Kd.R_base ho0) hb); replace HO466 := Aside0.mk (Kd.R_elder' zq171 (Kd.R_base ho0) hb); have HO477 := Aside0.mk (Kd.R_lower (Kd.R_new' (Kd.R_new' (Kd.R_new' (Kd.R_new' ho1 (Kd.R_lt zq136)) (Kd.R_lt zq138)) (Kd.R_lt zq140)) (Kd.R_lt zq172)) (below_size zq127)); replace HO_426002 := Aside0.mk (Kd.R_elder' zq136 (Kd.R_base ho1) hb); replace HO_435002 := Aside0.mk (Kd.R_elder' zq138 (Kd.R_base ho1) hb); replace HO_445002 := Aside0.mk (Kd.R_elder' zq140 (Kd.R_base ho1) hb); replace HO469 := Aside0.mk (Kd.R_elder' zq172 (Kd.R_base ho1) hb); replace BK406 := bF BK406 zq94 hb; replace BK425 := bF BK425 zq106 hb; replace BK434 := bF BK434 zq114 hb; replace BK444 := bF BK444 zq134 hb; replace HB := sB zq127 hb; clear hb; (try clear ho0); (try clear ho1)) | ((with_reducible refine gate_dst (N := 18) rfl ?_); refine box_event ?hg (N := 18) ?hd (cs := #[.int .i64 0, .slice none 0 0, .slice none 0 0, .int .i64 0]) (t := 31) ?hr ?_; (case hd => rfl); (case hg => rfl); (case hr => exact zq2); intro gb480 hg w128 hbox hb; replace HO_426001 := rB zq135 hb; replace HO_426002 := rB zq136 hb; replace HO_435001 := rB zq137 hb; replace HO_435002 := rB zq138 hb; replace HO_445001 := rB zq139 hb; replace HO_445002 := rB zq140 hb; replace HO466 := rB zq171 hb; replace HO469 := rB zq172 hb; replace HO474 := rB (by (with_reducible repeat (first | apply Kd.R_alloc | apply Kd.R_drewN | apply Kd.R_drew)); exact HO474.out) hb; replace HO477 := rB (by (with_reducible repeat (first | apply Kd.R_alloc | apply Kd.R_drewN | apply Kd.R_drew)); exact HO477.out) hb; have BK480 := Aside0.mk hbox; have GW480 := Aside0.mk (by rw [hg]; exact (below_size zq127) : w.heap.size ≤ gb480); have GE480 := Aside0.mk (by rw [hg]; exact (below_size zq127) : w.heap.size ≤ gb480); replace HB := sB zq127 hb; have NB406_480 := Aside0.mk (zq290 : gb406 ≠ gb480); have NB480_406 := Aside0.mk (zq291 : gb480 ≠ gb406); replace BK406 := bF BK406 zq94 hb; have NB425_480 := Aside0.mk (zq292 : gb425 ≠ gb480); have NB480_425 := Aside0.mk (zq293 : gb480 ≠ gb425); replace BK425 := bF BK425 zq106 hb; have NB434_480 := Aside0.mk (by rw [hg]; exact Nat.ne_of_lt (blk_lt (g := gb434) (o := .cells #[.int .i64 t426, .slice Ao36 t456.length co36, .slice Ao37 t457.length co37, .int .i64 t433] 31 (0, 0)) zq114) : gb434 ≠ gb480); have NB480_434 := Aside0.mk (by rw [hg]; exact Nat.ne_of_gt (blk_lt (g := gb434) (o := .cells #[.int .i64 t426, .slice Ao36 t456.length co36, .slice Ao37 t457.length co37, .int .i64 t433] 31 (0, 0)) zq114) : gb480 ≠ gb434); replace BK434 := bF BK434 zq114 hb; have NB444_480 := Aside0.mk (by rw [hg]; exact Nat.ne_of_lt (blk_lt (g := gb444) (o := .cells #[.int .i64 t435, .slice Ao44 t436.length co44, .slice Ao45 t439.length co45, .int .i64 t442] 31 (0, 0)) zq134) : gb444 ≠ gb480); have NB480_444 := Aside0.mk (by rw [hg]; exact Nat.ne_of_gt (blk_lt (g := gb444) (o := .cells #[.int .i64 t435, .slice Ao44 t436.length co44, .slice Ao45 t439.length co45, .int .i64 t442] 31 (0, 0)) zq134) : gb480 ≠ gb444); replace BK444 := bF BK444 zq134 hb; clear hb hbox hg; have hnb129 := NB480_406.out; have hnc129 := NB406_480.out; have hnb130 := NB480_425.out; have hnc130 := NB425_480.out; have hnb131 := NB480_434.out; have hnc131 := NB434_480.out; have hnb132 := NB480_444.out; have hnc132 := NB444_480.out; obtain ⟨hcz133_0, hcz133_1, hcz133_2, hcz133_3, hfz133_0, hfz133_1, hfz133_2, hfz133_3⟩ := c4 (w := w128) BK480; obtain ⟨Ao134, co134, eo134⟩ := Kd.R_slice HO474.out; subst eo134; obtain ⟨Ao135, co135, eo135⟩ := Kd.R_slice HO477.out; subst eo135))
       (try simp only [Act.put, List.setIfInBounds_toArray, List.set_cons_zero, List.set_cons_succ])
       go_cut [105] (fun v105 wc => ∃ (kq : Nat) (x105_112 : Bool), v105 = .bool x105_112 ∧ Aside0 (laws_FnExactChunk.j2 kq t459 x105_112 t435 t460 t461 t442 = some r) ∧ Aside0 (kq ≤ kj68) ∧ Aside0 (Kd.R k66 66 wc w.heap.size (fun k_ => some k_ ≠ ((.slice Ao36 t456.length co36) : Value).ownBlock ∧ some k_ ≠ ((.slice Ao44 t436.length co44) : Value).ownBlock ∧ some k_ ≠ ((.slice Ao134 t472.length co134) : Value).ownBlock) (.slice Ao28 t417.length co28) t417) ∧ Aside0 (Kd.R k68 68 wc w.heap.size (fun k_ => some k_ ≠ ((.slice Ao37 t457.length co37) : Value).ownBlock ∧ some k_ ≠ ((.slice Ao45 t439.length co45) : Value).ownBlock ∧ some k_ ≠ ((.slice Ao135 t475.length co135) : Value).ownBlock) (.slice Ao29 t420.length co29) t420) ∧ Aside0 (Kd.R k66 66 wc w.heap.size (fun k_ => some k_ ≠ ((.slice Ao28 t417.length co28) : Value).ownBlock ∧ some k_ ≠ ((.slice Ao44 t436.length co44) : Value).ownBlock ∧ some k_ ≠ ((.slice Ao134 t472.length co134) : Value).ownBlock) (.slice Ao36 t456.length co36) t456) ∧ Aside0 (Kd.R k68 68 wc w.heap.size (fun k_ => some k_ ≠ ((.slice Ao29 t420.length co29) : Value).ownBlock ∧ some k_ ≠ ((.slice Ao45 t439.length co45) : Value).ownBlock ∧ some k_ ≠ ((.slice Ao135 t475.length co135) : Value).ownBlock) (.slice Ao37 t457.length co37) t457) ∧ Aside0 (Kd.R k66 66 wc w.heap.size (fun k_ => some k_ ≠ ((.slice Ao28 t417.length co28) : Value).ownBlock ∧ some k_ ≠ ((.slice Ao36 t456.length co36) : Value).ownBlock ∧ some k_ ≠ ((.slice Ao134 t472.length co134) : Value).ownBlock) (.slice Ao44 t436.length co44) t460) ∧ Aside0 (Kd.R k68 68 wc w.heap.size (fun k_ => some k_ ≠ ((.slice Ao29 t420.length co29) : Value).ownBlock ∧ some k_ ≠ ((.slice Ao37 t457.length co37) : Value).ownBlock ∧ some k_ ≠ ((.slice Ao135 t475.length co135) : Value).ownBlock) (.slice Ao45 t439.length co45) t461) ∧ Aside0 (Kd.R k66 66 wc w.heap.size (fun k_ => some k_ ≠ ((.slice Ao28 t417.length co28) : Value).ownBlock ∧ some k_ ≠ ((.slice Ao36 t456.length co36) : Value).ownBlock ∧ some k_ ≠ ((.slice Ao44 t436.length co44) : Value).ownBlock) (.slice Ao134 t472.length co134) t472) ∧ Aside0 (Kd.R k68 68 wc w.heap.size (fun k_ => some k_ ≠ ((.slice Ao29 t420.length co29) : Value).ownBlock ∧ some k_ ≠ ((.slice Ao37 t457.length co37) : Value).ownBlock ∧ some k_ ≠ ((.slice Ao45 t439.length co45) : Value).ownBlock) (.slice Ao135 t475.length co135) t475) ∧ Aside0 (wc.heap[gb406]? = some (.cells #[.int .i64 a0_0, (.slice A0_1 l0_1.length c0_1), (.slice A0_2 l0_2.length c0_2), .int .i64 a0_3] 25 (0, 0))) ∧ Aside0 (wc.heap[gb425]? = some (.cells #[.int .i64 t416, (.slice Ao28 t417.length co28), (.slice Ao29 t420.length co29), .int .i64 t423] 31 (0, 0))) ∧ Aside0 (wc.heap[gb434]? = some (.cells #[.int .i64 t426, (.slice Ao36 t456.length co36), (.slice Ao37 t457.length co37), .int .i64 t433] 31 (0, 0))) ∧ Aside0 (wc.heap[gb444]? = some (.cells #[.int .i64 t435, (.slice Ao44 t436.length co44), (.slice Ao45 t439.length co45), .int .i64 t442] 31 (0, 0))) ∧ Aside0 (wc.heap[gb480]? = some (.cells #[.int .i64 t471, (.slice Ao134 t472.length co134), (.slice Ao135 t475.length co135), .int .i64 t478] 31 (0, 0))) ∧ Aside0 (Below w.heap.size w wc))
       case first =>
        have H := HC113.out
        clear HC113
        replace H := Option.bind_eq_some_iff.mp H
        obtain ⟨t481, A1360, H⟩ := H
        try dsimp only at H
        have A136 := Aside0.mk A1360
        clear A1360
        by_cases c137 : t481 = true
        ·
         subst c137
         have H1 : (laws_FnExactChunk.j2 kj68 t459 (t479 != t424) t435 t460 t461 t442) = some r := by rw [if_pos rfl] at H; exact H
         clear H
         have H := H1
         clear H1
         have H' := Aside0.mk H
         clear H
         have hnb138 := NB480_406.out
         have hnc138 := NB406_480.out
         have hnb139 := NB480_425.out
         have hnc139 := NB425_480.out
         have hnb140 := NB480_434.out
         have hnc140 := NB434_480.out
         have hnb141 := NB480_444.out
         have hnc141 := NB444_480.out
         obtain ⟨hcz142_0, hcz142_1, hcz142_2, hcz142_3, hfz142_0, hfz142_1, hfz142_2, hfz142_3⟩ := c4 (w := w128) BK480
         have hnb143 := NB425_406.out
         have hnc143 := NB406_425.out
         have hnb144 := NB425_434.out
         have hnc144 := NB434_425.out
         have hnb145 := NB425_444.out
         have hnc145 := NB444_425.out
         obtain ⟨hcz146_0, hcz146_1, hcz146_2, hcz146_3, hfz146_0, hfz146_1, hfz146_2, hfz146_3⟩ := c4 (w := w128) BK425
         go_wp2_with (first | ((with_reducible refine gC 19 rfl ?_); refine gL 99 Try.func19 #[.agg #[.int .i64 t471, .slice Ao134 t472.length co134, .slice Ao135 t475.length co135, .int .i64 t478], .agg #[.int .i64 t416, .slice Ao28 t417.length co28, .slice Ao29 t420.length co29, .int .i64 t423]] ?_; (with_reducible refine (laws_eqStore.calls kj68 t471 _ _ t472 _ _ t475 t478 t416 _ _ t417 _ _ t420 t423 true _ ?_ ?_ ?_ ?_ ?_ ?_ ?_ ?_ A136.out).mono ?_); exact zq298; exact (Kd.R_reads' HO474.out).2.1; exact zq299; exact (Kd.R_reads' HO477.out).2.1; exact zq300; exact zq163; exact zq301; exact zq165; rintro e w147 ⟨rfl, hb⟩; refine ⟨_, rfl, ?_⟩; replace HO_426001 := rB zq175 hb; replace HO_426002 := rB zq176 hb; replace HO_435001 := rB zq177 hb; replace HO_435002 := rB zq178 hb; replace HO_445001 := rB zq179 hb; replace HO_445002 := rB zq180 hb; replace HO466 := rB zq181 hb; replace HO469 := rB zq182 hb; replace HO474 := rB zq173 hb; replace HO477 := rB zq174 hb; replace BK406 := bF BK406 zq183 hb; replace BK425 := bF BK425 zq184 hb; replace BK434 := bF BK434 zq185 hb; replace BK444 := bF BK444 zq186 hb; replace BK480 := bB (g := gb480) (o := .cells #[.int .i64 t471, .slice Ao134 t472.length co134, .slice Ao135 t475.length co135, .int .i64 t478] 31 (0, 0)) zq187 hb; replace HB := sB zq188 hb; clear hb))
         go_meet
         case rel => exact ⟨_, ((t479 != t424)), zq6, H', ⟨zq189⟩, ⟨zq190⟩, ⟨zq191⟩, ⟨zq192⟩, ⟨zq193⟩, ⟨zq194⟩, ⟨zq195⟩, ⟨zq196⟩, ⟨zq197⟩, ⟨zq198⟩, ⟨zq199⟩, ⟨zq200⟩, ⟨zq201⟩, ⟨zq202⟩, ⟨zq188⟩⟩
        replace c137 := Bool.eq_false_iff.mpr c137
        subst c137
        have H1 : (laws_FnExactChunk.j2 kj68 t459 true t435 t460 t461 t442) = some r := by rw [if_neg (show ¬ (false = true) by decide)] at H; exact H
        clear H
        have H := H1
        clear H1
        have H' := Aside0.mk H
        clear H
        have hnb148 := NB480_406.out
        have hnc148 := NB406_480.out
        have hnb149 := NB480_425.out
        have hnc149 := NB425_480.out
        have hnb150 := NB480_434.out
        have hnc150 := NB434_480.out
        have hnb151 := NB480_444.out
        have hnc151 := NB444_480.out
        obtain ⟨hcz152_0, hcz152_1, hcz152_2, hcz152_3, hfz152_0, hfz152_1, hfz152_2, hfz152_3⟩ := c4 (w := w128) BK480
        have hnb153 := NB425_406.out
        have hnc153 := NB406_425.out
        have hnb154 := NB425_434.out
        have hnc154 := NB434_425.out
        have hnb155 := NB425_444.out
        have hnc155 := NB444_425.out
        obtain ⟨hcz156_0, hcz156_1, hcz156_2, hcz156_3, hfz156_0, hfz156_1, hfz156_2, hfz156_3⟩ := c4 (w := w128) BK425
        go_wp2_with (first | ((with_reducible refine gC 19 rfl ?_); refine gL 99 Try.func19 #[.agg #[.int .i64 t471, .slice Ao134 t472.length co134, .slice Ao135 t475.length co135, .int .i64 t478], .agg #[.int .i64 t416, .slice Ao28 t417.length co28, .slice Ao29 t420.length co29, .int .i64 t423]] ?_; (with_reducible refine (laws_eqStore.calls kj68 t471 _ _ t472 _ _ t475 t478 t416 _ _ t417 _ _ t420 t423 false _ ?_ ?_ ?_ ?_ ?_ ?_ ?_ ?_ A136.out).mono ?_); exact zq298; exact (Kd.R_reads' HO474.out).2.1; exact zq299; exact (Kd.R_reads' HO477.out).2.1; exact zq300; exact zq163; exact zq301; exact zq165; rintro e w157 ⟨rfl, hb⟩; refine ⟨_, rfl, ?_⟩; replace HO_426001 := rB zq175 hb; replace HO_426002 := rB zq176 hb; replace HO_435001 := rB zq177 hb; replace HO_435002 := rB zq178 hb; replace HO_445001 := rB zq179 hb; replace HO_445002 := rB zq180 hb; replace HO466 := rB zq181 hb; replace HO469 := rB zq182 hb; replace HO474 := rB zq173 hb; replace HO477 := rB zq174 hb; replace BK406 := bF BK406 zq183 hb; replace BK425 := bF BK425 zq184 hb; replace BK434 := bF BK434 zq185 hb; replace BK444 := bF BK444 zq186 hb; replace BK480 := bB (g := gb480) (o := .cells #[.int .i64 t471, .slice Ao134 t472.length co134, .slice Ao135 t475.length co135, .int .i64 t478] 31 (0, 0)) zq187 hb; replace HB := sB zq188 hb; clear hb))
        go_meet
        case rel => exact ⟨_, (true), zq6, H', ⟨zq189⟩, ⟨zq190⟩, ⟨zq191⟩, ⟨zq192⟩, ⟨zq193⟩, ⟨zq194⟩, ⟨zq195⟩, ⟨zq196⟩, ⟨zq197⟩, ⟨zq198⟩, ⟨zq199⟩, ⟨zq200⟩, ⟨zq201⟩, ⟨zq202⟩, ⟨zq188⟩⟩
       case rest =>
        clear HC113
        try clear c1
        try clear c2
        try clear p2
        try clear c3
        try clear c4
        try clear c5
        try clear c5b0
        try clear c5b1
        try clear c6
        try clear c7
        try clear c8
        try clear c8b0
        try clear c9
        try clear c10
        try clear c11
        try clear c12
        try clear c13
        try clear c14
        try clear c15
        try clear c17
        try clear c19
        try clear c26
        try clear c27
        try clear c32
        try clear c33
        try clear c34
        try clear c35
        try clear c36
        try clear c40
        try clear c41
        try clear c42
        try clear c47
        try clear c48
        try clear c49
        try clear c50
        try clear c52
        try clear c53
        try clear c56
        try clear c57
        try clear c58
        try clear c60
        try clear c61
        try clear c64
        try clear c67
        try clear c75
        try clear c76
        try clear c77
        try clear c80
        try clear c80b0
        try clear c82
        try clear c83
        try clear c84
        try clear c85
        try clear c87
        try clear c88
        try clear c91
        try clear c92
        try clear c93
        try clear c95
        try clear c96
        try clear c99
        try clear c102
        try clear c102b0
        try clear c103
        try clear c104
        try clear c105
        try clear c110
        try clear c110b0
        try clear c110b1
        try clear c114
        try clear c115
        try clear c116
        try clear c121
        try clear c122
        try clear c129
        try clear c130
        try clear c131
        try clear c132
        try clear c137
        try clear c138
        try clear c139
        try clear c140
        try clear c141
        try clear c143
        try clear c144
        try clear c145
        try clear c148
        try clear c149
        try clear c150
        try clear c151
        try clear c153
        try clear c154
        try clear c155
        try clear hcz106_0
        try clear hcz106_1
        try clear hcz106_2
        try clear hcz106_3
        try clear hcz108_0
        try clear hcz108_1
        try clear hcz108_2
        try clear hcz108_3
        try clear hcz10_0
        try clear hcz10_1
        try clear hcz10_2
        try clear hcz10_3
        try clear hcz117_0
        try clear hcz117_1
        try clear hcz117_2
        try clear hcz117_3
        try clear hcz119_0
        try clear hcz119_1
        try clear hcz119_2
        try clear hcz119_3
        try clear hcz123_0
        try clear hcz123_1
        try clear hcz123_2
        try clear hcz123_3
        try clear hcz133_0
        try clear hcz133_1
        try clear hcz133_2
        try clear hcz133_3
        try clear hcz142_0
        try clear hcz142_1
        try clear hcz142_2
        try clear hcz142_3
        try clear hcz146_0
        try clear hcz146_1
        try clear hcz146_2
        try clear hcz146_3
        try clear hcz152_0
        try clear hcz152_1
        try clear hcz152_2
        try clear hcz152_3
        try clear hcz156_0
        try clear hcz156_1
        try clear hcz156_2
        try clear hcz156_3
        try clear hcz18_0
        try clear hcz18_1
        try clear hcz18_2
        try clear hcz18_3
        try clear hcz20_0
        try clear hcz20_1
        try clear hcz20_2
        try clear hcz20_3
        try clear hcz27_0
        try clear hcz27_1
        try clear hcz27_2
        try clear hcz27_3
        try clear hcz30_0
        try clear hcz30_1
        try clear hcz30_2
        try clear hcz30_3
        try clear hcz35_0
        try clear hcz35_1
        try clear hcz35_2
        try clear hcz35_3
        try clear hcz43_0
        try clear hcz43_1
        try clear hcz43_2
        try clear hcz43_3
        try clear hcz51_0
        try clear hcz51_1
        try clear hcz51_2
        try clear hcz51_3
        try clear hcz54_0
        try clear hcz54_1
        try clear hcz54_2
        try clear hcz54_3
        try clear hcz59_0
        try clear hcz59_1
        try clear hcz59_2
        try clear hcz59_3
        try clear hcz62_0
        try clear hcz62_1
        try clear hcz62_2
        try clear hcz62_3
        try clear hcz78_0
        try clear hcz78_1
        try clear hcz78_2
        try clear hcz78_3
        try clear hcz86_0
        try clear hcz86_1
        try clear hcz86_2
        try clear hcz86_3
        try clear hcz89_0
        try clear hcz89_1
        try clear hcz89_2
        try clear hcz89_3
        try clear hcz94_0
        try clear hcz94_1
        try clear hcz94_2
        try clear hcz94_3
        try clear hcz97_0
        try clear hcz97_1
        try clear hcz97_2
        try clear hcz97_3
        try clear hfz106_0
        try clear hfz106_1
        try clear hfz106_2
        try clear hfz106_3
        try clear hfz108_0
        try clear hfz108_1
        try clear hfz108_2
        try clear hfz108_3
        try clear hfz10_0
        try clear hfz10_1
        try clear hfz10_2
        try clear hfz10_3
        try clear hfz117_0
        try clear hfz117_1
        try clear hfz117_2
        try clear hfz117_3
        try clear hfz119_0
        try clear hfz119_1
        try clear hfz119_2
        try clear hfz119_3
        try clear hfz123_0
        try clear hfz123_1
        try clear hfz123_2
        try clear hfz123_3
        try clear hfz133_0
        try clear hfz133_1
        try clear hfz133_2
        try clear hfz133_3
        try clear hfz142_0
        try clear hfz142_1
        try clear hfz142_2
        try clear hfz142_3
        try clear hfz146_0
        try clear hfz146_1
        try clear hfz146_2
        try clear hfz146_3
        try clear hfz152_0
        try clear hfz152_1
        try clear hfz152_2
        try clear hfz152_3
        try clear hfz156_0
        try clear hfz156_1
        try clear hfz156_2
        try clear hfz156_3
        try clear hfz18_0
        try clear hfz18_1
        try clear hfz18_2
        try clear hfz18_3
        try clear hfz20_0
        try clear hfz20_1
        try clear hfz20_2
        try clear hfz20_3
        try clear hfz27_0
        try clear hfz27_1
        try clear hfz27_2
        try clear hfz27_3
        try clear hfz30_0
        try clear hfz30_1
        try clear hfz30_2
        try clear hfz30_3
        try clear hfz35_0
        try clear hfz35_1
        try clear hfz35_2
        try clear hfz35_3
        try clear hfz43_0
        try clear hfz43_1
        try clear hfz43_2
        try clear hfz43_3
        try clear hfz51_0
        try clear hfz51_1
        try clear hfz51_2
        try clear hfz51_3
        try clear hfz54_0
        try clear hfz54_1
        try clear hfz54_2
        try clear hfz54_3
        try clear hfz59_0
        try clear hfz59_1
        try clear hfz59_2
        try clear hfz59_3
        try clear hfz62_0
        try clear hfz62_1
        try clear hfz62_2
        try clear hfz62_3
        try clear hfz78_0
        try clear hfz78_1
        try clear hfz78_2
        try clear hfz78_3
        try clear hfz86_0
        try clear hfz86_1
        try clear hfz86_2
        try clear hfz86_3
        try clear hfz89_0
        try clear hfz89_1
        try clear hfz89_2
        try clear hfz89_3
        try clear hfz94_0
        try clear hfz94_1
        try clear hfz94_2
        try clear hfz94_3
        try clear hfz97_0
        try clear hfz97_1
        try clear hfz97_2
        try clear hfz97_3
        try clear p2
        obtain ⟨kq, x105_112, rfl, HA, HJ112, HO_426001, HO_426002, HO_435001, HO_435002, HO_445001, HO_445002, HO_481001, HO_481002, BK406, BK425, BK434, BK444, BK480, HB⟩ := hcut
        have hl445001_112 := (Kd.R_reads' HO_445001.out).1
        rw [hl445001_112] at HO_445001
        (try simp only [hl445001_112])
        (try simp only [hl445001_112] at BK406)
        (try simp only [hl445001_112] at BK425)
        (try simp only [hl445001_112] at BK434)
        (try simp only [hl445001_112] at BK444)
        (try simp only [hl445001_112] at BK480)
        (try simp only [hl445001_112] at HO_426001)
        (try simp only [hl445001_112] at HO_426002)
        (try simp only [hl445001_112] at HO_435001)
        (try simp only [hl445001_112] at HO_435002)
        (try simp only [hl445001_112] at HO_445002)
        (try simp only [hl445001_112] at HO_481001)
        (try simp only [hl445001_112] at HO_481002)
        have hl445002_112 := (Kd.R_reads' HO_445002.out).1
        rw [hl445002_112] at HO_445002
        (try simp only [hl445002_112])
        (try simp only [hl445002_112] at BK406)
        (try simp only [hl445002_112] at BK425)
        (try simp only [hl445002_112] at BK434)
        (try simp only [hl445002_112] at BK444)
        (try simp only [hl445002_112] at BK480)
        (try simp only [hl445002_112] at HO_426001)
        (try simp only [hl445002_112] at HO_426002)
        (try simp only [hl445002_112] at HO_435001)
        (try simp only [hl445002_112] at HO_435002)
        (try simp only [hl445002_112] at HO_445001)
        (try simp only [hl445002_112] at HO_481001)
        (try simp only [hl445002_112] at HO_481002)
        cases kq with
        | zero => exact absurd HA.out (by simp [laws_FnExactChunk.j2])
        | succ kj112 =>
         have H := HA.out
         clear HA
         simp only [laws_FnExactChunk.j2] at H
         by_cases c158 : x105_112 = true
         ·
          subst c158
          have H1 : (some false) = some r := by rw [if_pos rfl] at H; exact H
          clear H
          have H := H1
          clear H1
          obtain rfl := Option.some.inj H
          go_wp2
          go_ret
          exact ⟨zq4, zq188⟩
         replace c158 := Bool.eq_false_iff.mpr c158
         subst c158
         have H1 : ((laws_heldStore.f kj112 t435 t460 t461 t442 1).bind fun t482 => (if t482 < 0 then (some false) else (if t482 = t459 then (some true) else (some false)))) = some r := by rw [if_neg (show ¬ (false = true) by decide)] at H; exact H
         clear H
         have H := H1
         clear H1
         replace H := Option.bind_eq_some_iff.mp H
         obtain ⟨t482, A1590, H⟩ := H
         try dsimp only at H
         have A159 := Aside0.mk A1590
         clear A1590
         by_cases c160 : t482 < 0
         ·
          rw [if_pos c160] at H
          have c160b0 := decide_eq_true c160
          clear c160
          obtain rfl := Option.some.inj H
          have hnb161 := NB444_406.out
          have hnc161 := NB406_444.out
          have hnb162 := NB444_425.out
          have hnc162 := NB425_444.out
          have hnb163 := NB444_434.out
          have hnc163 := NB434_444.out
          have hnb164 := NB444_480.out
          have hnc164 := NB480_444.out
          obtain ⟨hcz165_0, hcz165_1, hcz165_2, hcz165_3, hfz165_0, hfz165_1, hfz165_2, hfz165_3⟩ := c4 (w := wc) BK444
          go_wp2_with (first | ((with_reducible refine gC 32 rfl ?_); refine gL 108 Try.func32 #[.agg #[.int .i64 t435, .slice Ao44 t460.length co44, .slice Ao45 t461.length co45, .int .i64 t442], .int .i64 1] ?_; (with_reducible refine (laws_heldStore.calls kj112 t435 _ _ t460 _ _ t461 t442 1 t482 _ ?_ ?_ ?_ ?_ A159.out).mono ?_); exact zq158; exact zq159; exact zq160; exact zq161; rintro e w166 ⟨rfl, hb⟩; refine ⟨_, rfl, ?_⟩; replace HO_426001 := rB zq135 hb; replace HO_426002 := rB zq136 hb; replace HO_435001 := rB zq137 hb; replace HO_435002 := rB zq138 hb; replace HO_445001 := rB zq139 hb; replace HO_445002 := rB zq140 hb; replace HO_481001 := rB zq203 hb; replace HO_481002 := rB zq204 hb; replace BK406 := bF BK406 zq94 hb; replace BK425 := bF BK425 zq106 hb; replace BK434 := bF BK434 zq114 hb; replace BK444 := bF BK444 zq134 hb; replace BK480 := bF BK480 zq205 hb; replace HB := sB zq188 hb; clear hb))
          go_ret
          exact ⟨zq4, zq188⟩
         rw [if_neg c160] at H
         have c160b0 := decide_eq_false c160
         clear c160
         by_cases c167 : t482 = t459
         ·
          rw [if_pos c167] at H
          have c167b0 : (t482 == t459) = true := beq_iff_eq.mpr c167
          have c167b1 : (t482 != t459) = false := bne_eq_false_iff_eq.mpr c167
          clear c167
          obtain rfl := Option.some.inj H
          have hnb168 := NB444_406.out
          have hnc168 := NB406_444.out
          have hnb169 := NB444_425.out
          have hnc169 := NB425_444.out
          have hnb170 := NB444_434.out
          have hnc170 := NB434_444.out
          have hnb171 := NB444_480.out
          have hnc171 := NB480_444.out
          obtain ⟨hcz172_0, hcz172_1, hcz172_2, hcz172_3, hfz172_0, hfz172_1, hfz172_2, hfz172_3⟩ := c4 (w := wc) BK444
          go_wp2_with (first | ((with_reducible refine gC 32 rfl ?_); refine gL 108 Try.func32 #[.agg #[.int .i64 t435, .slice Ao44 t460.length co44, .slice Ao45 t461.length co45, .int .i64 t442], .int .i64 1] ?_; (with_reducible refine (laws_heldStore.calls kj112 t435 _ _ t460 _ _ t461 t442 1 t482 _ ?_ ?_ ?_ ?_ A159.out).mono ?_); exact zq158; exact zq159; exact zq160; exact zq161; rintro e w173 ⟨rfl, hb⟩; refine ⟨_, rfl, ?_⟩; replace HO_426001 := rB zq135 hb; replace HO_426002 := rB zq136 hb; replace HO_435001 := rB zq137 hb; replace HO_435002 := rB zq138 hb; replace HO_445001 := rB zq139 hb; replace HO_445002 := rB zq140 hb; replace HO_481001 := rB zq203 hb; replace HO_481002 := rB zq204 hb; replace BK406 := bF BK406 zq94 hb; replace BK425 := bF BK425 zq106 hb; replace BK434 := bF BK434 zq114 hb; replace BK444 := bF BK444 zq134 hb; replace BK480 := bF BK480 zq205 hb; replace HB := sB zq188 hb; clear hb))
          go_ret
          exact ⟨zq4, zq188⟩
         rw [if_neg c167] at H
         have c167b0 : (t482 == t459) = false := beq_eq_false_iff_ne.mpr c167
         have c167b1 : (t482 != t459) = true := bne_iff_ne.mpr c167
         obtain rfl := Option.some.inj H
         have hnb174 := NB444_406.out
         have hnc174 := NB406_444.out
         have hnb175 := NB444_425.out
         have hnc175 := NB425_444.out
         have hnb176 := NB444_434.out
         have hnc176 := NB434_444.out
         have hnb177 := NB444_480.out
         have hnc177 := NB480_444.out
         obtain ⟨hcz178_0, hcz178_1, hcz178_2, hcz178_3, hfz178_0, hfz178_1, hfz178_2, hfz178_3⟩ := c4 (w := wc) BK444
         go_wp2_with (first | ((with_reducible refine gC 32 rfl ?_); refine gL 108 Try.func32 #[.agg #[.int .i64 t435, .slice Ao44 t460.length co44, .slice Ao45 t461.length co45, .int .i64 t442], .int .i64 1] ?_; (with_reducible refine (laws_heldStore.calls kj112 t435 _ _ t460 _ _ t461 t442 1 t482 _ ?_ ?_ ?_ ?_ A159.out).mono ?_); exact zq158; exact zq159; exact zq160; exact zq161; rintro e w179 ⟨rfl, hb⟩; refine ⟨_, rfl, ?_⟩; replace HO_426001 := rB zq135 hb; replace HO_426002 := rB zq136 hb; replace HO_435001 := rB zq137 hb; replace HO_435002 := rB zq138 hb; replace HO_445001 := rB zq139 hb; replace HO_445002 := rB zq140 hb; replace HO_481001 := rB zq203 hb; replace HO_481002 := rB zq204 hb; replace BK406 := bF BK406 zq94 hb; replace BK425 := bF BK425 zq106 hb; replace BK434 := bF BK434 zq114 hb; replace BK444 := bF BK444 zq134 hb; replace BK480 := bF BK480 zq205 hb; replace HB := sB zq188 hb; clear hb))
         go_ret
         exact ⟨zq4, zq188⟩
      rw [if_neg c110] at H
      have c110b0 : (t462 == t459) = false := beq_eq_false_iff_ne.mpr c110
      have c110b1 : (t462 != t459) = true := bne_iff_ne.mpr c110
      obtain rfl := Option.some.inj H
      have hnb180 := NB444_406.out
      have hnc180 := NB406_444.out
      have hnb181 := NB444_425.out
      have hnc181 := NB425_444.out
      have hnb182 := NB444_434.out
      have hnc182 := NB434_444.out
      obtain ⟨hcz183_0, hcz183_1, hcz183_2, hcz183_3, hfz183_0, hfz183_1, hfz183_2, hfz183_3⟩ := c4 (w := wc) BK444
      go_wp2_with (first | ((with_reducible refine gC 27 rfl ?_); refine gL 79 Try.func27 #[.agg #[.int .i64 t435, .slice Ao44 t436.length co44, .slice Ao45 t439.length co45, .int .i64 t442], .int .i64 1] ?_; (with_reducible refine (laws_markStore.calls kj68 t435 (fun k_ => some k_ = (.slice Ao44 t436.length co44 : Value).ownBlock) (.slice Ao44 t436.length co44) t436 (fun k_ => some k_ = (.slice Ao45 t439.length co45 : Value).ownBlock) (.slice Ao45 t439.length co45) t439 t442 1 t459 t460 t461 w _ ?_ ?_ ?_ A100.out).mono ?_); exact zq127; exact zq166; exact zq167; rintro e w184 ⟨rfl, hy0, hy1, hb, hkp⟩; refine ⟨_, rfl, ?_⟩; replace HO_426001 := Aside0.mk (Kd.R_mono (ok' := fun k_ => some k_ ≠ (.slice Ao36 t456.length co36 : Value).ownBlock ∧ some k_ ≠ (.slice Ao44 t436.length co44 : Value).ownBlock) (Kd.R_keptB ((Kd.R_apart' HO_426001.out (Kd.R_typed HO_445002.out) (by decide))) hkp (fun k_ hk_ hs_ => Or.elim hs_ (fun e_ => by first | exact hk_.1.2 e_ | exact hk_.1.1 e_ | exact hk_.1.1.1 e_ | exact hk_.1.1.2 e_ | exact hk_.1.2.1 e_ | exact hk_.1.2.2 e_ | exact hk_.2 e_ | simp_all) (fun e_ => by first | exact hk_.2 e_ | exact hk_.1.1 e_ | exact hk_.1.2 e_ | exact hk_.1.1.1 e_ | exact hk_.1.1.2 e_ | exact hk_.1.2.1 e_ | exact hk_.1.2.2 e_ | simp_all))) (fun k_ hk_ => by first | exact ⟨hk_.1.1.1, hk_.1.1.2⟩ | simp_all)); replace HO_426002 := Aside0.mk (Kd.R_mono (ok' := fun k_ => some k_ ≠ (.slice Ao37 t457.length co37 : Value).ownBlock ∧ some k_ ≠ (.slice Ao45 t439.length co45 : Value).ownBlock) (Kd.R_keptB ((Kd.R_apart' HO_426002.out (Kd.R_typed HO_445001.out) (by decide))) hkp (fun k_ hk_ hs_ => Or.elim hs_ (fun e_ => by first | exact hk_.2 e_ | exact hk_.1.1 e_ | exact hk_.1.2 e_ | exact hk_.1.1.1 e_ | exact hk_.1.1.2 e_ | exact hk_.1.2.1 e_ | exact hk_.1.2.2 e_ | simp_all) (fun e_ => by first | exact hk_.1.2 e_ | exact hk_.1.1 e_ | exact hk_.1.1.1 e_ | exact hk_.1.1.2 e_ | exact hk_.1.2.1 e_ | exact hk_.1.2.2 e_ | exact hk_.2 e_ | simp_all))) (fun k_ hk_ => by first | exact ⟨hk_.1.1.1, hk_.1.1.2⟩ | simp_all)); replace HO_435001 := Aside0.mk (Kd.R_mono (ok' := fun k_ => some k_ ≠ (.slice Ao28 t417.length co28 : Value).ownBlock ∧ some k_ ≠ (.slice Ao44 t436.length co44 : Value).ownBlock) (Kd.R_keptB ((Kd.R_apart' HO_435001.out (Kd.R_typed HO_445002.out) (by decide))) hkp (fun k_ hk_ hs_ => Or.elim hs_ (fun e_ => by first | exact hk_.1.2 e_ | exact hk_.1.1 e_ | exact hk_.1.1.1 e_ | exact hk_.1.1.2 e_ | exact hk_.1.2.1 e_ | exact hk_.1.2.2 e_ | exact hk_.2 e_ | simp_all) (fun e_ => by first | exact hk_.2 e_ | exact hk_.1.1 e_ | exact hk_.1.2 e_ | exact hk_.1.1.1 e_ | exact hk_.1.1.2 e_ | exact hk_.1.2.1 e_ | exact hk_.1.2.2 e_ | simp_all))) (fun k_ hk_ => by first | exact ⟨hk_.1.1.1, hk_.1.1.2⟩ | simp_all)); replace HO_435002 := Aside0.mk (Kd.R_mono (ok' := fun k_ => some k_ ≠ (.slice Ao29 t420.length co29 : Value).ownBlock ∧ some k_ ≠ (.slice Ao45 t439.length co45 : Value).ownBlock) (Kd.R_keptB ((Kd.R_apart' HO_435002.out (Kd.R_typed HO_445001.out) (by decide))) hkp (fun k_ hk_ hs_ => Or.elim hs_ (fun e_ => by first | exact hk_.2 e_ | exact hk_.1.1 e_ | exact hk_.1.2 e_ | exact hk_.1.1.1 e_ | exact hk_.1.1.2 e_ | exact hk_.1.2.1 e_ | exact hk_.1.2.2 e_ | simp_all) (fun e_ => by first | exact hk_.1.2 e_ | exact hk_.1.1 e_ | exact hk_.1.1.1 e_ | exact hk_.1.1.2 e_ | exact hk_.1.2.1 e_ | exact hk_.1.2.2 e_ | exact hk_.2 e_ | simp_all))) (fun k_ hk_ => by first | exact ⟨hk_.1.1.1, hk_.1.1.2⟩ | simp_all)); replace BK406 := Aside0.mk (blk_kept zq147 hkp (fun hs_ => Or.elim hs_ (fun e_ => (fun e_ => (Kd.R_ne HO_445001.out BK406.out (by decide)) e_) e_) (fun e_ => (fun e_ => (Kd.R_ne HO_445002.out BK406.out (by decide)) e_) e_))); replace BK425 := Aside0.mk (blk_kept zq148 hkp (fun hs_ => Or.elim hs_ (fun e_ => (fun e_ => (Kd.R_ne HO_445001.out BK425.out (by decide)) e_) e_) (fun e_ => (fun e_ => (Kd.R_ne HO_445002.out BK425.out (by decide)) e_) e_))); replace BK434 := Aside0.mk (blk_kept zq149 hkp (fun hs_ => Or.elim hs_ (fun e_ => (fun e_ => (Kd.R_ne HO_445001.out BK434.out (by decide)) e_) e_) (fun e_ => (fun e_ => (Kd.R_ne HO_445002.out BK434.out (by decide)) e_) e_))); replace BK444 := Aside0.mk (blk_kept zq150 hkp (fun hs_ => Or.elim hs_ (fun e_ => (fun e_ => (Kd.R_ne HO_445001.out BK444.out (by decide)) e_) e_) (fun e_ => (fun e_ => (Kd.R_ne HO_445002.out BK444.out (by decide)) e_) e_))); replace HO_445001 := Aside0.mk (Kd.R_reok rfl hy0 (fun k_ e_ => HO_445001.out.1 k_ e_)); replace HO_445002 := Aside0.mk (Kd.R_reok rfl hy1 (fun k_ e_ => HO_445002.out.1 k_ e_)); replace HB := Aside0.mk hb; clear hb; (try clear hkp); (try clear hy0); (try clear hy1); obtain ⟨hcz185_0, hcz185_1, hcz185_2, hcz185_3, hfz185_0, hfz185_1, hfz185_2, hfz185_3⟩ := c4 (w := w184) BK444) | ((with_reducible refine gC 32 rfl ?_); refine gL 82 Try.func32 #[.agg #[.int .i64 t435, .slice Ao44 t460.length co44, .slice Ao45 t461.length co45, .int .i64 t442], .int .i64 1] ?_ (hargs := by (try simp only [List.map_toArray, List.map_cons, List.map_nil]); first | done | (rw [show t460.length = t436.length from (Kd.R_reads' HO_445001.out).1.symm, show t461.length = t439.length from (Kd.R_reads' HO_445002.out).1.symm] <;> rfl) | rfl | (simp only [List.length_drop, List.length_take]; rfl)); (with_reducible refine (laws_heldStore.calls kj68 t435 _ _ t460 _ _ t461 t442 1 t462 _ ?_ ?_ ?_ ?_ A101.out).mono ?_); exact zq158; exact zq169; exact zq160; exact zq170; rintro e w186 ⟨rfl, hb⟩; refine ⟨_, rfl, ?_⟩; replace HO_426001 := rB zq135 hb; replace HO_426002 := rB zq136 hb; replace HO_435001 := rB zq137 hb; replace HO_435002 := rB zq138 hb; replace HO_445001 := rB zq139 hb; replace HO_445002 := rB zq140 hb; replace BK406 := bF BK406 zq94 hb; replace BK425 := bF BK425 zq106 hb; replace BK434 := bF BK434 zq114 hb; replace BK444 := bF BK444 zq134 hb; replace HB := sB zq127 hb; clear hb))
      go_ret
      exact ⟨zq4, zq127⟩
   replace c67 := Bool.eq_false_iff.mpr c67
   subst c67
   have H1 : (some false) = some r := by rw [if_neg (show ¬ (false = true) by decide)] at H; exact H
   clear H
   have H := H1
   clear H1
   obtain rfl := Option.some.inj H
   try go_wp2
   replace HO_426001 := Aside0.mk (Kd.R_drew HO_426001.out)
   replace HO_426002 := Aside0.mk (Kd.R_drew HO_426002.out)
   replace HO_435001 := Aside0.mk (Kd.R_drew HO_435001.out)
   replace HO_435002 := Aside0.mk (Kd.R_drew HO_435002.out)
   replace HO_445001 := Aside0.mk (Kd.R_drew HO_445001.out)
   replace HO_445002 := Aside0.mk (Kd.R_drew HO_445002.out)
   replace BK406 := Aside0.mk (blk_drew BK406.out)
   replace BK425 := Aside0.mk (blk_drew BK425.out)
   replace BK434 := Aside0.mk (blk_drew BK434.out)
   replace BK444 := Aside0.mk (blk_drew BK444.out)
   replace HB := Aside0.mk (below_drew1 HB.out)
   refine start_ (n := 5) (S := fun w' => w'.cell? ⟨gb434, 0, none⟩ = some (.int .i64 t426) ∧ w'.cell? ⟨gb434, 1, none⟩ = some (.slice Ao36 t427.length co36) ∧ w'.cell? ⟨gb434, 2, none⟩ = some (.slice Ao37 t430.length co37) ∧ w'.cell? ⟨gb434, 3, none⟩ = some (.int .i64 t433) ∧ w'.cell? ⟨gb406, 0, none⟩ = some (.int .i64 a0_0) ∧ w'.cell? ⟨gb406, 1, none⟩ = some (.slice A0_1 l0_1.length c0_1) ∧ w'.cell? ⟨gb406, 2, none⟩ = some (.slice A0_2 l0_2.length c0_2) ∧ w'.cell? ⟨gb406, 3, none⟩ = some (.int .i64 a0_3)) (ds := []) #[false, false, false, false, false] (by kernel_rfl) rfl rfl ⟨(blk_cell BK434.out 0).trans rfl, (blk_cell BK434.out 1).trans rfl, (blk_cell BK434.out 2).trans rfl, (blk_cell BK434.out 3).trans rfl, (blk_cell BK406.out 0).trans rfl, (blk_cell BK406.out 1).trans rfl, (blk_cell BK406.out 2).trans rfl, (blk_cell BK406.out 3).trans rfl⟩ (fun hHeld => ?_)
   generalize wc.drew = w187 at HO_426001 HO_426002 HO_435001 HO_435002 HO_445001 HO_445002 BK406 BK425 BK434 BK444 HB hHeld ⊢
   refine take_ (i := 0) (N := some 56) (v := ?_) (a' := ?_) #[true, false, false, false, false] rfl rfl (by kernel_rfl) (fun _ _ _ h => h) (Or.inl ⟨by rfl, ?_⟩) hHeld ?_ ?_
   rotate_left
   exact zq341
   rotate_left
   exact zq332
   refine take_ (i := 1) (N := some 57) (v := ?_) (a' := ?_) #[true, true, false, false, false] rfl rfl (by kernel_rfl) (fun _ _ _ h => h) (Or.inl ⟨by rfl, ?_⟩) hHeld ?_ ?_
   rotate_left
   exact zq341
   rotate_left
   exact zq332
   refine one_ (i := 2) (N := some 58) #[true, true, true, false, false] rfl rfl (by kernel_rfl) (by decide) (fun K hK => ?_)
   refine goes_ Try.func17 (by kernel_rfl) rfl #[.agg #[.int .i64 a0_0, .slice A0_1 l0_1.length c0_1, .slice A0_2 l0_2.length c0_2, .int .i64 a0_3]] (by rfl) rfl rfl zq8 ?_
   with_reducible refine (laws_toStore.calls kj15 a0_0 _ _ l0_1 _ _ l0_2 a0_3 t446 t447 t450 t453 _ ?side1 ?side2 ?side3 ?side4 A65.out).mono ?_
   (case side1 => exact zq11)
   (case side2 => exact zq12)
   (case side3 => exact zq15)
   (case side4 => exact zq16)
   rintro e w188 ⟨v448, v451, rfl, ho0, ho1, hb⟩
   refine ⟨_, rfl, ?_⟩
   have HO449 := Aside0.mk (Kd.R_lower (Kd.R_new' (Kd.R_new' (Kd.R_new' ho0 (Kd.R_lt zq135)) (Kd.R_lt zq137)) (Kd.R_lt zq139)) (below_size zq127))
   replace HO_426001 := Aside0.mk (Kd.R_elder' zq135 (Kd.R_base ho0) hb)
   replace HO_435001 := Aside0.mk (Kd.R_elder' zq137 (Kd.R_base ho0) hb)
   replace HO_445001 := Aside0.mk (Kd.R_elder' zq139 (Kd.R_base ho0) hb)
   have HO452 := Aside0.mk (Kd.R_lower (Kd.R_new' (Kd.R_new' (Kd.R_new' ho1 (Kd.R_lt zq136)) (Kd.R_lt zq138)) (Kd.R_lt zq140)) (below_size zq127))
   replace HO_426002 := Aside0.mk (Kd.R_elder' zq136 (Kd.R_base ho1) hb)
   replace HO_435002 := Aside0.mk (Kd.R_elder' zq138 (Kd.R_base ho1) hb)
   replace HO_445002 := Aside0.mk (Kd.R_elder' zq140 (Kd.R_base ho1) hb)
   replace BK406 := bF BK406 zq94 hb
   replace BK425 := bF BK425 zq106 hb
   replace BK434 := bF BK434 zq114 hb
   replace BK444 := bF BK444 zq134 hb
   replace HB := sB zq127 hb
   (try clear hb)
   (try clear hb2)
   (try clear hk)
   (try clear hi)
   (try clear ho0)
   (try clear ho1)
   obtain ⟨Ao189, co189, eo189⟩ := Kd.R_slice HO449.out
   (first | subst eo189 | (injection eo189 with f1_ f2_ f3_; have f4_ := f1_.symm; have f5_ := f3_.symm; clear f1_ f2_ f3_; subst f4_; subst f5_))
   obtain ⟨Ao190, co190, eo190⟩ := Kd.R_slice HO452.out
   (first | subst eo190 | (injection eo190 with f1_ f2_ f3_; have f4_ := f1_.symm; have f5_ := f3_.symm; clear f1_ f2_ f3_; subst f4_; subst f5_))
   refine hK.out _ _ ⟨(blk_cell BK434.out 0).trans rfl, (blk_cell BK434.out 1).trans rfl, (blk_cell BK434.out 2).trans rfl, (blk_cell BK434.out 3).trans rfl, (blk_cell BK406.out 0).trans rfl, (blk_cell BK406.out 1).trans rfl, (blk_cell BK406.out 2).trans rfl, (blk_cell BK406.out 3).trans rfl⟩ (fun hHeld => ?_)
   clear hK K
   refine norm_ (a' := ?_) ?_ ?_
   rotate_left
   ·
    show Act.put _ (some 58) _ = _
    simp only [Act.put, List.setIfInBounds_toArray, List.set_cons_zero, List.set_cons_succ, i64_w, i32_w]
    rfl
   refine one_ (i := 3) (N := some 59) #[true, true, true, true, false] rfl rfl (by kernel_rfl) (by decide) (fun K hK => ?_)
   refine goes_ Try.func19 (by kernel_rfl) rfl #[.agg #[.int .i64 t426, .slice Ao36 t427.length co36, .slice Ao37 t430.length co37, .int .i64 t433], .agg #[.int .i64 t446, .slice Ao189 t447.length co189, .slice Ao190 t450.length co190, .int .i64 t453]] (by rfl) rfl rfl zq8 ?_
   with_reducible refine (laws_eqStore.calls kj15 t426 _ _ t427 _ _ t430 t433 t446 _ _ t447 _ _ t450 t453 false _ ?side1 ?side2 ?side3 ?side4 ?side5 ?side6 ?side7 ?side8 A66.out).mono ?_
   (case side1 => exact zq141)
   (case side2 => exact (Kd.R_reads' HO_435001.out).2.1)
   (case side3 => exact zq142)
   (case side4 => exact (Kd.R_reads' HO_435002.out).2.1)
   (case side5 => exact zq143)
   (case side6 => exact (Kd.R_reads' HO449.out).2.1)
   (case side7 => exact zq144)
   (case side8 => exact (Kd.R_reads' HO452.out).2.1)
   rintro e w191 ⟨rfl, hb⟩
   refine ⟨_, rfl, ?_⟩
   replace HO_426001 := rB zq135 hb
   replace HO_426002 := rB zq136 hb
   replace HO_435001 := rB zq137 hb
   replace HO_435002 := rB zq138 hb
   replace HO_445001 := rB zq139 hb
   replace HO_445002 := rB zq140 hb
   replace HO449 := rB zq145 hb
   replace HO452 := rB zq146 hb
   replace BK406 := bF BK406 zq94 hb
   replace BK425 := bF BK425 zq106 hb
   replace BK434 := bF BK434 zq114 hb
   replace BK444 := bF BK444 zq134 hb
   replace HB := sB zq127 hb
   (try clear hb)
   (try clear hb2)
   (try clear hk)
   (try clear hi)
   refine hK.out _ _ ⟨(blk_cell BK434.out 0).trans rfl, (blk_cell BK434.out 1).trans rfl, (blk_cell BK434.out 2).trans rfl, (blk_cell BK434.out 3).trans rfl, (blk_cell BK406.out 0).trans rfl, (blk_cell BK406.out 1).trans rfl, (blk_cell BK406.out 2).trans rfl, (blk_cell BK406.out 3).trans rfl⟩ (fun hHeld => ?_)
   clear hK K
   refine norm_ (a' := ?_) ?_ ?_
   rotate_left
   exact zq335
   refine pure_ (i := 4) (N := some 60) (v := ?_) (a' := ?_) #[true, true, true, true, true] rfl rfl (by kernel_rfl) (fun _ _ _ h => h) (Or.inl ⟨by rfl, ?_⟩) ?_ ?_
   rotate_left
   exact zq331
   rotate_left
   exact zq332
   refine done_ (by kernel_rfl) ?_
   try go_wp2
   go_ret
   exact ⟨zq4, zq127⟩

/-- THE ONE PURE STATEMENT of laws_FnExactChunk. -/
def laws_FnExactChunk.Pure : Prop := ∀ (a0_0 : Int) (l0_1 : List (S95)) (l0_2 : List (S97)) (a0_3 : Int) (a1 : Int) (a2 : Int) (a3 : ByteArray), (Lit.int .i64 a0_0).wf = true → (l0_1.length ≤ maxLen ∧ ∀ y0_ ∈ l0_1, (y0_.f0.size ≤ maxLen ∧ y0_.f1.size ≤ maxLen)) → (l0_2.length ≤ maxLen ∧ ∀ y0_ ∈ l0_2, ((Lit.int .i64 y0_.f0).wf = true ∧ y0_.f1.size ≤ maxLen)) → (Lit.int .i64 a0_3).wf = true → (Lit.int .i64 a1).wf = true → (Lit.int .i64 a2).wf = true → a3.size ≤ 140737488351232 → ∃ k, laws_FnExactChunk.f k a0_0 l0_1 l0_2 a0_3 a1 a2 a3 = some true

end Go.Proofs.Ytacaeebjanglgaa.QFnExactChunk
