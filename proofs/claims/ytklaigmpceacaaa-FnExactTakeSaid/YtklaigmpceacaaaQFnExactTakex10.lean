/- Written by wip/myprint.py of this repo (the kit's print, with additions of this session). -/
import Derived.Test.YtklaigmpceacaaaQFnExactTakex0
import Derived.Test.YtklaigmpceacaaaQFnExactTakex1
import Derived.Test.YtklaigmpceacaaaQFnExactTakex4
import Derived.Test.YtklaigmpceacaaaQFnExactTakex5
import Derived.Test.YtklaigmpceacaaaQFnExactTakex7
import Derived.Test.YtklaigmpceacaaaQFnExactTakex8
import Derived.Test.YtklaigmpceacaaaQFnExactTakex9
set_option maxRecDepth 100000
namespace Go.Proofs.Ytklaigmpceacaaa.QFnExactTake
open Go.RowKit Go.Proofs.YtklaigmpceacaaaW.PrintWords Go.Proofs.YtklaigmpceacaaaW.PrintLast Go.Proofs.YtklaigmpceacaaaW.PrintMore
attribute [local go_sem] max2_int min2_int max_two min_two max_three min_three max_four min_four   -- for this text's walks alone
set_option linter.unusedVariables false
set_option linter.unusedSimpArgs false

/-! ### laws_FnExactTake: function 6 -/
mutual
def laws_FnExactTake.j0 : Nat → Int → Bool → Bool → Bool → Bool → Int → List (S88) → Int → List (S39) → Int → Int → Int → ByteArray → Int → List (S39) → Int → List (S39) → Int → Int → Int → ByteArray → Option (Bool)
 | 0, _, _, _, _, _, _, _, _, _, _, _, _, _, _, _, _, _, _, _, _, _ => none
 | k + 1, x1, x2, x10, x14, x59, x226000, x226001, x241000, x241001, x242000, x242001, x242002, x242003, x247000, x247001, x257000, x257001, x258000, x258001, x258002, x258003 => if x59 = true then (some false) else ((laws_toNet.f k x226000 x226001).bind fun bt260 => ((laws_eqNet.f k x247000 x247001 bt260.1 bt260.2).bind fun t264 => (if t264 = true then ((laws_markNet.f k x247000 x247001 1).bind fun bt265 => (if bt265.1 < 0 then (laws_FnExactTake.j1 k x1 x2 x10 true x226000 x226001 x241000 x241001 x242000 x242001 x242002 x242003 x257000 x257001) else ((laws_eqNet.f k x257000 x257001 x241000 x241001).bind fun t267 => (if t267 = true then ((laws_eqPacket.f x258000 x258001 x258002 x258003 x242000 x242001 x242002 x242003).bind fun t268 => (if t268 = true then (laws_FnExactTake.j1 k x1 x2 x10 (x14 != x10) x226000 x226001 x241000 x241001 x242000 x242001 x242002 x242003 x257000 x257001) else (laws_FnExactTake.j1 k x1 x2 x10 true x226000 x226001 x241000 x241001 x242000 x242001 x242002 x242003 x257000 x257001))) else (laws_FnExactTake.j1 k x1 x2 x10 true x226000 x226001 x241000 x241001 x242000 x242001 x242002 x242003 x257000 x257001))))) else (some false))))
def laws_FnExactTake.j1 : Nat → Int → Bool → Bool → Bool → Int → List (S88) → Int → List (S39) → Int → Int → Int → ByteArray → Int → List (S39) → Option (Bool)
 | 0, _, _, _, _, _, _, _, _, _, _, _, _, _, _ => none
 | k + 1, x1, x2, x10, x86, x226000, x226001, x241000, x241001, x242000, x242001, x242002, x242003, x257000, x257001 => if x86 = true then (some false) else ((laws_markNet.f k x257000 x257001 1).bind fun bt269 => ((laws_heldNet.f k x257000 bt269.2 1).bind fun t271 => (if t271 < 0 then (some false) else (if t271 = bt269.1 then ((laws_toNet.f k x226000 x226001).bind fun bt272 => ((impl_Take.f k bt272.1 bt272.2 x1 x2).bind fun bt276 => ((laws_eqNet.f k bt276.1 bt276.2.1 x241000 x241001).bind fun t287 => (if t287 = true then ((laws_eqPacket.f bt276.2.2.1 bt276.2.2.2.1 bt276.2.2.2.2.1 bt276.2.2.2.2.2.1 x242000 x242001 x242002 x242003).bind fun t288 => (if t288 = true then (laws_FnExactTake.j2 k bt269.1 (bt276.2.2.2.2.2.2 != x10) x257000 bt269.2) else (laws_FnExactTake.j2 k bt269.1 true x257000 bt269.2))) else (laws_FnExactTake.j2 k bt269.1 true x257000 bt269.2))))) else (some false)))))
def laws_FnExactTake.j2 : Nat → Int → Bool → Int → List (S39) → Option (Bool)
 | 0, _, _, _, _ => none
 | k + 1, x16, x121, x257000, x257001 => if x121 = true then (some false) else ((laws_heldNet.f k x257000 x257001 1).bind fun t289 => (if t289 < 0 then (some false) else (if t289 = x16 then (some true) else (some false))))
end
def laws_FnExactTake.f (k : Nat) (a0_0 : Int) (l0_1 : List (S88)) (a1 : Int) (a2 : Bool) : Option (Bool) := (laws_szNet.f k a0_0 l0_1 1048576).bind fun t226 => (if t226 < 0 then (some true) else ((laws_toNet.f k a0_0 l0_1).bind fun bt227 => ((spec_Take.f k bt227.1 bt227.2 a1 a2).bind fun bt231 => ((laws_toNet.f k a0_0 l0_1).bind fun bt242 => ((impl_Take.f k bt242.1 bt242.2 a1 a2).bind fun bt247 => ((laws_eqNet.f k bt247.1 bt247.2.1 bt231.1 bt231.2.1).bind fun t258 => (if t258 = true then ((laws_eqPacket.f bt247.2.2.1 bt247.2.2.2.1 bt247.2.2.2.2.1 bt247.2.2.2.2.2.1 bt231.2.2.1 bt231.2.2.2.1 bt231.2.2.2.2.1 bt231.2.2.2.2.2.1).bind fun t259 => (if t259 = true then (laws_FnExactTake.j0 k a1 a2 bt231.2.2.2.2.2.2 bt247.2.2.2.2.2.2 (bt247.2.2.2.2.2.2 != bt231.2.2.2.2.2.2) a0_0 l0_1 bt231.1 bt231.2.1 bt231.2.2.1 bt231.2.2.2.1 bt231.2.2.2.2.1 bt231.2.2.2.2.2.1 bt242.1 bt242.2 bt247.1 bt247.2.1 bt247.2.2.1 bt247.2.2.2.1 bt247.2.2.2.2.1 bt247.2.2.2.2.2.1) else (laws_FnExactTake.j0 k a1 a2 bt231.2.2.2.2.2.2 bt247.2.2.2.2.2.2 true a0_0 l0_1 bt231.1 bt231.2.1 bt231.2.2.1 bt231.2.2.2.1 bt231.2.2.2.2.1 bt231.2.2.2.2.2.1 bt242.1 bt242.2 bt247.1 bt247.2.1 bt247.2.2.1 bt247.2.2.2.1 bt247.2.2.2.2.1 bt247.2.2.2.2.2.1))) else (laws_FnExactTake.j0 k a1 a2 bt231.2.2.2.2.2.2 bt247.2.2.2.2.2.2 true a0_0 l0_1 bt231.1 bt231.2.1 bt231.2.2.1 bt231.2.2.2.1 bt231.2.2.2.2.1 bt231.2.2.2.2.2.1 bt242.1 bt242.2 bt247.1 bt247.2.1 bt247.2.2.1 bt247.2.2.2.1 bt247.2.2.2.2.1 bt247.2.2.2.2.2.1))))))))
theorem laws_FnExactTake.mono_l : ∀ k, (∀ y0 y1 y2 y3 y4 y5 y6 y7 y8 y9 y10 y11 y12 y13 y14 y15 y16 y17 y18 y19 y20, LeO (laws_FnExactTake.j0 k y0 y1 y2 y3 y4 y5 y6 y7 y8 y9 y10 y11 y12 y13 y14 y15 y16 y17 y18 y19 y20) (laws_FnExactTake.j0 (k + 1) y0 y1 y2 y3 y4 y5 y6 y7 y8 y9 y10 y11 y12 y13 y14 y15 y16 y17 y18 y19 y20)) ∧ (∀ y0 y1 y2 y3 y4 y5 y6 y7 y8 y9 y10 y11 y12 y13, LeO (laws_FnExactTake.j1 k y0 y1 y2 y3 y4 y5 y6 y7 y8 y9 y10 y11 y12 y13) (laws_FnExactTake.j1 (k + 1) y0 y1 y2 y3 y4 y5 y6 y7 y8 y9 y10 y11 y12 y13)) ∧ (∀ y0 y1 y2 y3, LeO (laws_FnExactTake.j2 k y0 y1 y2 y3) (laws_FnExactTake.j2 (k + 1) y0 y1 y2 y3))
 | 0 => ⟨fun _ _ _ _ _ _ _ _ _ _ _ _ _ _ _ _ _ _ _ _ _ r h => by simp [laws_FnExactTake.j0] at h, fun _ _ _ _ _ _ _ _ _ _ _ _ _ _ r h => by simp [laws_FnExactTake.j1] at h, fun _ _ _ _ r h => by simp [laws_FnExactTake.j2] at h⟩
 | k + 1 => by
  obtain ⟨ih0, ih1, ih2⟩ := laws_FnExactTake.mono_l k
  refine ⟨?_, ?_, ?_⟩
  ·
   intro y0 y1 y2 y3 y4 y5 y6 y7 y8 y9 y10 y11 y12 y13 y14 y15 y16 y17 y18 y19 y20
   unfold laws_FnExactTake.j0
   repeat' first
   | (with_reducible exact ih0 _ _ _ _ _ _ _ _ _ _ _ _ _ _ _ _ _ _ _ _ _)
   | (with_reducible exact ih1 _ _ _ _ _ _ _ _ _ _ _ _ _ _)
   | (with_reducible exact ih2 _ _ _ _)
   | (with_reducible exact impl_Take.mono _ _ _ _ _)
   | (with_reducible exact laws_eqNet.mono _ _ _ _ _)
   | (with_reducible exact laws_heldNet.mono _ _ _ _)
   | (with_reducible exact laws_markNet.mono _ _ _ _)
   | (with_reducible exact laws_szNet.mono _ _ _ _)
   | (with_reducible exact laws_toNet.mono _ _ _)
   | (with_reducible exact spec_Take.mono _ _ _ _ _)
   | (with_reducible exact LeO.refl _)
   | (with_reducible exact LeO.none _)
   | (with_reducible refine LeO.ite ?_ ?_)
   | (with_reducible refine LeO.bind ?_ (fun _ => ?_))
   | exact LeO.none _
   | refine LeO.ite ?_ ?_
   | refine LeO.bind ?_ (fun _ => ?_)
  ·
   intro y0 y1 y2 y3 y4 y5 y6 y7 y8 y9 y10 y11 y12 y13
   unfold laws_FnExactTake.j1
   repeat' first
   | (with_reducible exact ih0 _ _ _ _ _ _ _ _ _ _ _ _ _ _ _ _ _ _ _ _ _)
   | (with_reducible exact ih1 _ _ _ _ _ _ _ _ _ _ _ _ _ _)
   | (with_reducible exact ih2 _ _ _ _)
   | (with_reducible exact impl_Take.mono _ _ _ _ _)
   | (with_reducible exact laws_eqNet.mono _ _ _ _ _)
   | (with_reducible exact laws_heldNet.mono _ _ _ _)
   | (with_reducible exact laws_markNet.mono _ _ _ _)
   | (with_reducible exact laws_szNet.mono _ _ _ _)
   | (with_reducible exact laws_toNet.mono _ _ _)
   | (with_reducible exact spec_Take.mono _ _ _ _ _)
   | (with_reducible exact LeO.refl _)
   | (with_reducible exact LeO.none _)
   | (with_reducible refine LeO.ite ?_ ?_)
   | (with_reducible refine LeO.bind ?_ (fun _ => ?_))
   | exact LeO.none _
   | refine LeO.ite ?_ ?_
   | refine LeO.bind ?_ (fun _ => ?_)
  intro y0 y1 y2 y3
  unfold laws_FnExactTake.j2
  repeat' first
  | (with_reducible exact ih0 _ _ _ _ _ _ _ _ _ _ _ _ _ _ _ _ _ _ _ _ _)
  | (with_reducible exact ih1 _ _ _ _ _ _ _ _ _ _ _ _ _ _)
  | (with_reducible exact ih2 _ _ _ _)
  | (with_reducible exact impl_Take.mono _ _ _ _ _)
  | (with_reducible exact laws_eqNet.mono _ _ _ _ _)
  | (with_reducible exact laws_heldNet.mono _ _ _ _)
  | (with_reducible exact laws_markNet.mono _ _ _ _)
  | (with_reducible exact laws_szNet.mono _ _ _ _)
  | (with_reducible exact laws_toNet.mono _ _ _)
  | (with_reducible exact spec_Take.mono _ _ _ _ _)
  | (with_reducible exact LeO.refl _)
  | (with_reducible exact LeO.none _)
  | (with_reducible refine LeO.ite ?_ ?_)
  | (with_reducible refine LeO.bind ?_ (fun _ => ?_))
  | exact LeO.none _
  | refine LeO.ite ?_ ?_
  | refine LeO.bind ?_ (fun _ => ?_)
theorem laws_FnExactTake.mono : ∀ a0 a1 a2 a3 k, LeO (laws_FnExactTake.f k a0 a1 a2 a3) (laws_FnExactTake.f (k + 1) a0 a1 a2 a3) := by
 intro a0 a1 a2 a3 k
 obtain ⟨ih0, ih1, ih2⟩ := laws_FnExactTake.mono_l k
 unfold laws_FnExactTake.f
 repeat' first
   | (with_reducible exact ih0 _ _ _ _ _ _ _ _ _ _ _ _ _ _ _ _ _ _ _ _ _)
   | (with_reducible exact ih1 _ _ _ _ _ _ _ _ _ _ _ _ _ _)
   | (with_reducible exact ih2 _ _ _ _)
   | (with_reducible exact impl_Take.mono _ _ _ _ _)
   | (with_reducible exact laws_eqNet.mono _ _ _ _ _)
   | (with_reducible exact laws_heldNet.mono _ _ _ _)
   | (with_reducible exact laws_markNet.mono _ _ _ _)
   | (with_reducible exact laws_szNet.mono _ _ _ _)
   | (with_reducible exact laws_toNet.mono _ _ _)
   | (with_reducible exact spec_Take.mono _ _ _ _ _)
   | (with_reducible exact LeO.refl _)
   | (with_reducible exact LeO.none _)
   | (with_reducible refine LeO.ite ?_ ?_)
   | (with_reducible refine LeO.bind ?_ (fun _ => ?_))
   | exact LeO.none _
   | refine LeO.ite ?_ ?_
   | refine LeO.bind ?_ (fun _ => ?_)
set_option maxHeartbeats 8000000 in
set_option maxRecDepth 100000 in
theorem laws_FnExactTake.calls (k : Nat) (a0_0 : Int) (A0_1 : Option Addr) (c0_1 : Nat) (l0_1 : List (S88)) (a1 : Int) (a2 : Bool) (r : Bool) (w : World) (hr0_1 : Kd.C k88 w A0_1 l0_1.length l0_1) (hc0_1 : l0_1.length ≤ c0_1) (h : laws_FnExactTake.f k a0_0 l0_1 a1 a2 = some r) :
  Calls Try.prog 6 #[.agg #[.int .i64 a0_0, .slice A0_1 l0_1.length c0_1], .int .i64 a1, .bool a2] w fun e w' => e = .returned (.bool r) ∧ Below w.heap.size w w' := by
 have hu33 := Try.underlying33
 have hu37 := Try.underlying37
 have hu39 := Try.underlying39
 have HR0_1 := Aside0.mk hr0_1
 have HC0_1 := Aside0.mk hc0_1
 clear hr0_1 hc0_1
 have HB := Aside0.mk (Below.refl w.heap.size w)
 have H : ((laws_szNet.f k a0_0 l0_1 1048576).bind fun t226 => (if t226 < 0 then (some true) else ((laws_toNet.f k a0_0 l0_1).bind fun bt227 => ((spec_Take.f k bt227.1 bt227.2 a1 a2).bind fun bt231 => ((laws_toNet.f k a0_0 l0_1).bind fun bt242 => ((impl_Take.f k bt242.1 bt242.2 a1 a2).bind fun bt247 => ((laws_eqNet.f k bt247.1 bt247.2.1 bt231.1 bt231.2.1).bind fun t258 => (if t258 = true then ((laws_eqPacket.f bt247.2.2.1 bt247.2.2.2.1 bt247.2.2.2.2.1 bt247.2.2.2.2.2.1 bt231.2.2.1 bt231.2.2.2.1 bt231.2.2.2.2.1 bt231.2.2.2.2.2.1).bind fun t259 => (if t259 = true then (laws_FnExactTake.j0 k a1 a2 bt231.2.2.2.2.2.2 bt247.2.2.2.2.2.2 (bt247.2.2.2.2.2.2 != bt231.2.2.2.2.2.2) a0_0 l0_1 bt231.1 bt231.2.1 bt231.2.2.1 bt231.2.2.2.1 bt231.2.2.2.2.1 bt231.2.2.2.2.2.1 bt242.1 bt242.2 bt247.1 bt247.2.1 bt247.2.2.1 bt247.2.2.2.1 bt247.2.2.2.2.1 bt247.2.2.2.2.2.1) else (laws_FnExactTake.j0 k a1 a2 bt231.2.2.2.2.2.2 bt247.2.2.2.2.2.2 true a0_0 l0_1 bt231.1 bt231.2.1 bt231.2.2.1 bt231.2.2.2.1 bt231.2.2.2.2.1 bt231.2.2.2.2.2.1 bt242.1 bt242.2 bt247.1 bt247.2.1 bt247.2.2.1 bt247.2.2.2.1 bt247.2.2.2.2.1 bt247.2.2.2.2.2.1))) else (laws_FnExactTake.j0 k a1 a2 bt231.2.2.2.2.2.2 bt247.2.2.2.2.2.2 true a0_0 l0_1 bt231.1 bt231.2.1 bt231.2.2.1 bt231.2.2.2.1 bt231.2.2.2.2.1 bt231.2.2.2.2.2.1 bt242.1 bt242.2 bt247.1 bt247.2.1 bt247.2.2.1 bt247.2.2.2.1 bt247.2.2.2.2.1 bt247.2.2.2.2.2.1))))))))) = some r := h
 clear h
 replace H := Option.bind_eq_some_iff.mp H
 obtain ⟨t226, A40, H⟩ := H
 try dsimp only at H
 have A4 := Aside0.mk A40
 clear A40
 by_cases c5 : t226 < 0
 ·
  rw [if_pos c5] at H
  have c5b0 := decide_eq_true c5
  clear c5
  obtain rfl := Option.some.inj H
  go_enter Try.func6, Try.ntmps6
  go_wp2_with (first | ((with_reducible refine gate_dst (N := 3) rfl ?_); refine box_event ?hg (N := 3) ?hd (cs := #[.int .i64 a0_0, .slice A0_1 l0_1.length c0_1]) (t := 33) ?hr ?_; (case hd => rfl); (case hg => rfl); (case hr => exact zq1); intro gb225 hg w6 hbox hb; have BK225 := Aside0.mk hbox; have GW225 := Aside0.mk (zq205 : w.heap.size ≤ gb225); have GE225 := Aside0.mk (zq205 : w.heap.size ≤ gb225); replace HB := sB zq2 hb; clear hb hbox hg; obtain ⟨hcz7_0, hcz7_1, hfz7_0, hfz7_1⟩ := c2 (w := w6) BK225) | ((with_reducible refine gC 17 rfl ?_); refine gL 23 Try.func17 #[.agg #[.int .i64 a0_0, .slice A0_1 l0_1.length c0_1], .int .i64 1048576] ?_; (with_reducible refine (laws_szNet.calls k a0_0 _ _ l0_1 1048576 t226 _ ?_ ?_ A4.out).mono ?_); exact zq9; exact zq10; rintro e w8 ⟨rfl, hb⟩; refine ⟨_, rfl, ?_⟩; replace BK225 := bF BK225 zq14 hb; replace HB := sB zq15 hb; clear hb))
  go_ret
  exact ⟨zq3, zq15⟩
 rw [if_neg c5] at H
 have c5b0 := decide_eq_false c5
 clear c5
 replace H := Option.bind_eq_some_iff.mp H
 obtain ⟨⟨t227, t228⟩, A90, H⟩ := H
 try dsimp only at H
 have A9 := Aside0.mk A90
 clear A90
 replace H := Option.bind_eq_some_iff.mp H
 obtain ⟨⟨t231, t232, t235, t236, t237, t238, t239⟩, A100, H⟩ := H
 try dsimp only at H
 have A10 := Aside0.mk A100
 clear A100
 replace H := Option.bind_eq_some_iff.mp H
 obtain ⟨⟨t242, t243⟩, A110, H⟩ := H
 try dsimp only at H
 have A11 := Aside0.mk A110
 clear A110
 replace H := Option.bind_eq_some_iff.mp H
 obtain ⟨⟨t247, t248, t251, t252, t253, t254, t255⟩, A120, H⟩ := H
 try dsimp only at H
 have A12 := Aside0.mk A120
 clear A120
 have HC13 := Aside0.mk H
 clear H
 go_enter Try.func6, Try.ntmps6
 go_upto_region 8 with (first | ((with_reducible refine gate_dst (N := 3) rfl ?_); refine box_event ?hg (N := 3) ?hd (cs := #[.int .i64 a0_0, .slice A0_1 l0_1.length c0_1]) (t := 33) ?hr ?_; (case hd => rfl); (case hg => rfl); (case hr => exact zq1); intro gb225 hg w14 hbox hb; have BK225 := Aside0.mk hbox; have GW225 := Aside0.mk (zq205 : w.heap.size ≤ gb225); have GE225 := Aside0.mk (zq205 : w.heap.size ≤ gb225); replace HB := sB zq2 hb; clear hb hbox hg; obtain ⟨hcz15_0, hcz15_1, hfz15_0, hfz15_1⟩ := c2 (w := w14) BK225) | ((with_reducible refine gC 17 rfl ?_); refine gL 23 Try.func17 #[.agg #[.int .i64 a0_0, .slice A0_1 l0_1.length c0_1], .int .i64 1048576] ?_; (with_reducible refine (laws_szNet.calls k a0_0 _ _ l0_1 1048576 t226 _ ?_ ?_ A4.out).mono ?_); exact zq9; exact zq10; rintro e w16 ⟨rfl, hb⟩; refine ⟨_, rfl, ?_⟩; replace BK225 := bF BK225 zq14 hb; replace HB := sB zq15 hb; clear hb; obtain ⟨hcz17_0, hcz17_1, hfz17_0, hfz17_1⟩ := c2 (w := w16) BK225) | ((with_reducible refine gC 19 rfl ?_); refine gL 28 Try.func19 #[.agg #[.int .i64 a0_0, .slice A0_1 l0_1.length c0_1]] ?_; (with_reducible refine (laws_toNet.calls k a0_0 _ _ l0_1 t227 t228 _ ?_ ?_ A9.out).mono ?_); exact zq9; exact zq10; rintro e w18 ⟨v229, rfl, ho0, hb⟩; refine ⟨_, rfl, ?_⟩; have HO230 := Aside0.mk (Kd.R_lower ho0 (below_size zq15)); replace BK225 := bF BK225 zq14 hb; replace HB := sB zq15 hb; clear hb; (try clear ho0); obtain ⟨Ao19, co19, eo19⟩ := Kd.R_slice HO230.out; subst eo19) | ((with_reducible refine gC 18 rfl ?_); refine gL 31 Try.func18 #[.agg #[.int .i64 t227, .slice Ao19 t228.length co19], .int .i64 a1, .bool a2] ?_; (with_reducible refine (spec_Take.calls k t227 _ _ t228 a1 a2 t231 t232 t235 t236 t237 t238 t239 _ ?side1 ?_ A10.out).mono ?_); (case side1 => repeat (first | exact (Kd.R_reads' HO230.out).2.2 | (with_reducible refine Kd.C_alloc ?_ _) | (with_reducible refine Kd.C_drewN ?_ _) | (with_reducible refine Kd.C_drew ?_))); exact (Kd.R_reads' HO230.out).2.1; rintro e w20 ⟨v233, rfl, ho0, hb⟩; refine ⟨_, rfl, ?_⟩; have HO234 := Aside0.mk (Kd.R_lower (Kd.R_new' ho0 (Kd.R_lt zq16)) (below_size zq15)); replace HO230 := Aside0.mk (Kd.R_elder' zq16 (Kd.R_base ho0) hb); replace BK225 := bF BK225 zq14 hb; replace HB := sB zq15 hb; clear hb; (try clear ho0)) | ((with_reducible refine gate_dst (N := 8) rfl ?_); refine box_event ?hg (N := 8) ?hd (cs := #[.int .i64 0, .slice none 0 0]) (t := 37) ?hr ?_; (case hd => rfl); (case hg => rfl); (case hr => exact zq1); intro gb240 hg w21 hbox hb; replace HO230 := rB zq16 hb; replace HO234 := rB zq17 hb; have BK240 := Aside0.mk hbox; have GW240 := Aside0.mk (by rw [hg]; exact (below_size zq15) : w.heap.size ≤ gb240); have GE240 := Aside0.mk (by rw [hg]; exact (below_size zq15) : w.heap.size ≤ gb240); replace HB := sB zq15 hb; have NB225_240 := Aside0.mk (zq206 : gb225 ≠ gb240); have NB240_225 := Aside0.mk (zq207 : gb240 ≠ gb225); replace BK225 := bF BK225 zq14 hb; clear hb hbox hg) | ((with_reducible refine gate_dst (N := 9) rfl ?_); refine box_event ?hg (N := 9) ?hd (cs := #[.int .i64 0, .int .i64 0, .int .i64 0, .string (⟨#[]⟩ : ByteArray)]) (t := 39) ?hr ?_; (case hd => rfl); (case hg => rfl); (case hr => exact zq1); intro gb241 hg w22 hbox hb; replace HO230 := Aside0.mk (Kd.R_below (Kd.R_elderB zq16 gb241 (Nat.le_of_eq hg.symm)) hb); replace HO234 := Aside0.mk (Kd.R_below (Kd.R_elderB zq17 gb241 (Nat.le_of_eq hg.symm)) hb); have BK241 := Aside0.mk hbox; have GW241 := Aside0.mk (by rw [hg]; exact (below_size zq19) : w.heap.size ≤ gb241); have GE241 := Aside0.mk (by rw [hg]; exact (below_size zq19) : w.heap.size ≤ gb241); replace HB := sB zq19 hb; have NB225_241 := Aside0.mk (zq206 : gb225 ≠ gb241); have NB241_225 := Aside0.mk (zq207 : gb241 ≠ gb225); replace BK225 := bF BK225 zq14 hb; have NB240_241 := Aside0.mk (by rw [hg]; exact Nat.ne_of_lt (blk_lt (g := gb240) (o := .cells #[.int .i64 0, .slice none 0 0] 37 (0, 0)) zq18) : gb240 ≠ gb241); have NB241_240 := Aside0.mk (by rw [hg]; exact Nat.ne_of_gt (blk_lt (g := gb240) (o := .cells #[.int .i64 0, .slice none 0 0] 37 (0, 0)) zq18) : gb241 ≠ gb240); replace BK240 := bF BK240 zq18 hb; clear hb hbox hg; have hnb23 := NB240_225.out; have hnc23 := NB225_240.out; have hnb24 := NB240_241.out; have hnc24 := NB241_240.out; obtain ⟨hcz25_0, hcz25_1, hfz25_0, hfz25_1⟩ := c2 (w := w22) BK240; obtain ⟨Ao26, co26, eo26⟩ := Kd.R_slice HO234.out; subst eo26; have hnb27 := NB241_225.out; have hnc27 := NB225_241.out; obtain ⟨hcz28_0, hcz28_1, hcz28_2, hcz28_3, hfz28_0, hfz28_1, hfz28_2, hfz28_3⟩ := c4 (w := w22) BK241; obtain ⟨hcz29_0, hcz29_1, hfz29_0, hfz29_1⟩ := c2 (w := w22) BK225) | ((with_reducible refine gC 19 rfl ?_); refine gL 36 Try.func19 #[.agg #[.int .i64 a0_0, .slice A0_1 l0_1.length c0_1]] ?_; (with_reducible refine (laws_toNet.calls k a0_0 _ _ l0_1 t242 t243 _ ?_ ?_ A11.out).mono ?_); exact Kd.C_below HR0_1.out zq20; exact zq10; rintro e w30 ⟨v244, rfl, ho0, hb⟩; refine ⟨_, rfl, ?_⟩; have HO245 := Aside0.mk (Kd.R_lower (Kd.R_newB (Kd.R_new' (Kd.R_new' ho0 (Kd.R_lt zq21)) (Kd.R_lt zq22)) (g := gb241) (o := .cells #[.int .i64 t235, .int .i64 t236, .int .i64 t237, .string t238] 39 (0, 0)) zq23) (below_size zq20)); replace HO230 := Aside0.mk (Kd.R_elder' zq21 (Kd.R_base ho0) hb); replace HO234 := Aside0.mk (Kd.R_elder' zq22 (Kd.R_base ho0) hb); replace BK225 := bF BK225 (by (with_reducible repeat (first | refine blk_drewN ?_ _ | refine blk_drew ?_ | refine blk_alloc ?_ _)); refine blk_far ?_ NB225_241.out _; (with_reducible repeat (first | refine blk_drewN ?_ _ | refine blk_drew ?_ | refine blk_alloc ?_ _)); refine blk_far ?_ NB225_241.out _; (with_reducible repeat (first | refine blk_drewN ?_ _ | refine blk_drew ?_ | refine blk_alloc ?_ _)); refine blk_far ?_ NB225_241.out _; (with_reducible repeat (first | refine blk_drewN ?_ _ | refine blk_drew ?_ | refine blk_alloc ?_ _)); refine blk_far ?_ NB225_241.out _; (with_reducible repeat (first | refine blk_drewN ?_ _ | refine blk_drew ?_ | refine blk_alloc ?_ _)); refine blk_far ?_ NB225_240.out _; (with_reducible repeat (first | refine blk_drewN ?_ _ | refine blk_drew ?_ | refine blk_alloc ?_ _)); refine blk_far ?_ NB225_240.out _; (with_reducible repeat (first | refine blk_drewN ?_ _ | refine blk_drew ?_ | refine blk_alloc ?_ _)); exact BK225.out) hb; replace BK240 := bB (g := gb240) (o := .cells #[.int .i64 t231, .slice Ao26 t232.length co26] 37 (0, 0)) (by (with_reducible repeat (first | refine blk_drewN ?_ _ | refine blk_drew ?_ | refine blk_alloc ?_ _)); refine blk_far ?_ NB240_241.out _; (with_reducible repeat (first | refine blk_drewN ?_ _ | refine blk_drew ?_ | refine blk_alloc ?_ _)); refine blk_far ?_ NB240_241.out _; (with_reducible repeat (first | refine blk_drewN ?_ _ | refine blk_drew ?_ | refine blk_alloc ?_ _)); refine blk_far ?_ NB240_241.out _; (with_reducible repeat (first | refine blk_drewN ?_ _ | refine blk_drew ?_ | refine blk_alloc ?_ _)); refine blk_far ?_ NB240_241.out _; (with_reducible repeat (first | refine blk_drewN ?_ _ | refine blk_drew ?_ | refine blk_alloc ?_ _)); refine blk_put (cs := #[.int .i64 t231, .slice none 0 0]) ?_ 1 _ rfl; (with_reducible repeat (first | refine blk_drewN ?_ _ | refine blk_drew ?_ | refine blk_alloc ?_ _)); refine blk_put (cs := #[.int .i64 0, .slice none 0 0]) ?_ 0 _ rfl; (with_reducible repeat (first | refine blk_drewN ?_ _ | refine blk_drew ?_ | refine blk_alloc ?_ _)); exact BK240.out) hb; replace BK241 := bB (g := gb241) (o := .cells #[.int .i64 t235, .int .i64 t236, .int .i64 t237, .string t238] 39 (0, 0)) zq23 hb; replace HB := sB zq20 hb; clear hb; (try clear ho0)) | ((with_reducible refine gate_dst (N := 11) rfl ?_); refine box_event ?hg (N := 11) ?hd (cs := #[.int .i64 0, .slice none 0 0]) (t := 37) ?hr ?_; (case hd => rfl); (case hg => rfl); (case hr => exact zq1); intro gb246 hg w31 hbox hb; replace HO230 := rB zq16 hb; replace HO234 := rB zq17 hb; replace HO245 := rB zq24 hb; have BK246 := Aside0.mk hbox; have GW246 := Aside0.mk (by rw [hg]; exact (below_size zq20) : w.heap.size ≤ gb246); have GE246 := Aside0.mk (by rw [hg]; exact (below_size zq20) : w.heap.size ≤ gb246); replace HB := sB zq20 hb; have NB225_246 := Aside0.mk (zq206 : gb225 ≠ gb246); have NB246_225 := Aside0.mk (zq207 : gb246 ≠ gb225); replace BK225 := bF BK225 zq14 hb; have NB240_246 := Aside0.mk (zq208 : gb240 ≠ gb246); have NB246_240 := Aside0.mk (zq209 : gb246 ≠ gb240); replace BK240 := bF BK240 zq18 hb; have NB241_246 := Aside0.mk (zq210 : gb241 ≠ gb246); have NB246_241 := Aside0.mk (zq211 : gb246 ≠ gb241); replace BK241 := bF BK241 zq25 hb; clear hb hbox hg; have hnb32 := NB246_225.out; have hnc32 := NB225_246.out; have hnb33 := NB246_240.out; have hnc33 := NB240_246.out; have hnb34 := NB246_241.out; have hnc34 := NB241_246.out; obtain ⟨hcz35_0, hcz35_1, hfz35_0, hfz35_1⟩ := c2 (w := w31) BK246; obtain ⟨Ao36, co36, eo36⟩ := Kd.R_slice HO245.out; subst eo36) | ((with_reducible refine gC 20 rfl ?_); refine gL 41 Try.func20 #[.agg #[.int .i64 t242, .slice Ao36 t243.length co36], .int .i64 a1, .bool a2] ?_; (with_reducible refine (impl_Take.calls k t242 _ _ t243 a1 a2 t247 t248 t251 t252 t253 t254 t255 _ ?side1 ?_ A12.out).mono ?_); (case side1 => refine (Kd.R_reads' (e := 39) (base := w.heap.size) (ok := fun k_ => (((True ∧ some k_ ≠ (.slice Ao19 t228.length co19 : Value).ownBlock) ∧ some k_ ≠ (.slice Ao26 t232.length co26 : Value).ownBlock) ∧ k_ ≠ gb241)) (n := t243.length) (c := co36) ?_).2.2; exact zq26); exact (Kd.R_reads' HO245.out).2.1; rintro e w37 ⟨v249, rfl, ho0, hb⟩; refine ⟨_, rfl, ?_⟩; have HO250 := Aside0.mk (Kd.R_lower (Kd.R_newB (Kd.R_new' (Kd.R_new' (Kd.R_new' ho0 (Kd.R_lt zq27)) (Kd.R_lt zq28)) (Kd.R_lt zq26)) (g := gb241) (o := .cells #[.int .i64 t235, .int .i64 t236, .int .i64 t237, .string t238] 39 (0, 0)) zq29) (below_size zq30)); replace HO230 := Aside0.mk (Kd.R_elder' zq27 (Kd.R_base ho0) hb); replace HO234 := Aside0.mk (Kd.R_elder' zq28 (Kd.R_base ho0) hb); replace HO245 := Aside0.mk (Kd.R_elder' zq26 (Kd.R_base ho0) hb); replace BK225 := bF BK225 (by (with_reducible repeat (first | refine blk_drewN ?_ _ | refine blk_drew ?_ | refine blk_alloc ?_ _)); refine blk_far ?_ NB225_246.out _; (with_reducible repeat (first | refine blk_drewN ?_ _ | refine blk_drew ?_ | refine blk_alloc ?_ _)); refine blk_far ?_ NB225_246.out _; (with_reducible repeat (first | refine blk_drewN ?_ _ | refine blk_drew ?_ | refine blk_alloc ?_ _)); exact BK225.out) hb; replace BK240 := bF BK240 (by (with_reducible repeat (first | refine blk_drewN ?_ _ | refine blk_drew ?_ | refine blk_alloc ?_ _)); refine blk_far ?_ NB240_246.out _; (with_reducible repeat (first | refine blk_drewN ?_ _ | refine blk_drew ?_ | refine blk_alloc ?_ _)); refine blk_far ?_ NB240_246.out _; (with_reducible repeat (first | refine blk_drewN ?_ _ | refine blk_drew ?_ | refine blk_alloc ?_ _)); exact BK240.out) hb; replace BK241 := bF BK241 zq29 hb; replace BK246 := bB (g := gb246) (o := .cells #[.int .i64 t242, .slice Ao36 t243.length co36] 37 (0, 0)) (by (with_reducible repeat (first | refine blk_drewN ?_ _ | refine blk_drew ?_ | refine blk_alloc ?_ _)); refine blk_put (cs := #[.int .i64 t242, .slice none 0 0]) ?_ 1 _ rfl; (with_reducible repeat (first | refine blk_drewN ?_ _ | refine blk_drew ?_ | refine blk_alloc ?_ _)); refine blk_put (cs := #[.int .i64 0, .slice none 0 0]) ?_ 0 _ rfl; (with_reducible repeat (first | refine blk_drewN ?_ _ | refine blk_drew ?_ | refine blk_alloc ?_ _)); exact BK246.out) hb; replace HB := sB zq30 hb; clear hb; (try clear ho0)) | ((with_reducible refine gate_dst (N := 12) rfl ?_); refine box_event ?hg (N := 12) ?hd (cs := #[.int .i64 0, .slice none 0 0]) (t := 37) ?hr ?_; (case hd => rfl); (case hg => rfl); (case hr => exact zq1); intro gb256 hg w38 hbox hb; replace HO230 := rB zq16 hb; replace HO234 := rB zq17 hb; replace HO245 := rB zq24 hb; replace HO250 := rB zq31 hb; have BK256 := Aside0.mk hbox; have GW256 := Aside0.mk (by rw [hg]; exact (below_size zq30) : w.heap.size ≤ gb256); have GE256 := Aside0.mk (by rw [hg]; exact (below_size zq30) : w.heap.size ≤ gb256); replace HB := sB zq30 hb; have NB225_256 := Aside0.mk (zq206 : gb225 ≠ gb256); have NB256_225 := Aside0.mk (zq207 : gb256 ≠ gb225); replace BK225 := bF BK225 zq14 hb; have NB240_256 := Aside0.mk (zq208 : gb240 ≠ gb256); have NB256_240 := Aside0.mk (zq209 : gb256 ≠ gb240); replace BK240 := bF BK240 zq18 hb; have NB241_256 := Aside0.mk (zq210 : gb241 ≠ gb256); have NB256_241 := Aside0.mk (zq211 : gb256 ≠ gb241); replace BK241 := bF BK241 zq25 hb; have NB246_256 := Aside0.mk (zq212 : gb246 ≠ gb256); have NB256_246 := Aside0.mk (zq213 : gb256 ≠ gb246); replace BK246 := bF BK246 zq32 hb; clear hb hbox hg) | ((with_reducible refine gate_dst (N := 13) rfl ?_); refine box_event ?hg (N := 13) ?hd (cs := #[.int .i64 0, .int .i64 0, .int .i64 0, .string (⟨#[]⟩ : ByteArray)]) (t := 39) ?hr ?_; (case hd => rfl); (case hg => rfl); (case hr => exact zq1); intro gb257 hg w39 hbox hb; replace HO230 := Aside0.mk (Kd.R_below (Kd.R_elderB zq16 gb257 (Nat.le_of_eq hg.symm)) hb); replace HO234 := Aside0.mk (Kd.R_below (Kd.R_elderB zq17 gb257 (Nat.le_of_eq hg.symm)) hb); replace HO245 := Aside0.mk (Kd.R_below (Kd.R_elderB zq24 gb257 (Nat.le_of_eq hg.symm)) hb); replace HO250 := Aside0.mk (Kd.R_below (Kd.R_elderB zq31 gb257 (Nat.le_of_eq hg.symm)) hb); have BK257 := Aside0.mk hbox; have GW257 := Aside0.mk (by rw [hg]; exact (below_size zq34) : w.heap.size ≤ gb257); have GE257 := Aside0.mk (by rw [hg]; exact (below_size zq34) : w.heap.size ≤ gb257); replace HB := sB zq34 hb; have NB225_257 := Aside0.mk (zq206 : gb225 ≠ gb257); have NB257_225 := Aside0.mk (zq207 : gb257 ≠ gb225); replace BK225 := bF BK225 zq14 hb; have NB240_257 := Aside0.mk (zq208 : gb240 ≠ gb257); have NB257_240 := Aside0.mk (zq209 : gb257 ≠ gb240); replace BK240 := bF BK240 zq18 hb; have NB241_257 := Aside0.mk (zq210 : gb241 ≠ gb257); have NB257_241 := Aside0.mk (zq211 : gb257 ≠ gb241); replace BK241 := bF BK241 zq25 hb; have NB246_257 := Aside0.mk (zq212 : gb246 ≠ gb257); have NB257_246 := Aside0.mk (zq213 : gb257 ≠ gb246); replace BK246 := bF BK246 zq32 hb; have NB256_257 := Aside0.mk (by rw [hg]; exact Nat.ne_of_lt (blk_lt (g := gb256) (o := .cells #[.int .i64 0, .slice none 0 0] 37 (0, 0)) zq33) : gb256 ≠ gb257); have NB257_256 := Aside0.mk (by rw [hg]; exact Nat.ne_of_gt (blk_lt (g := gb256) (o := .cells #[.int .i64 0, .slice none 0 0] 37 (0, 0)) zq33) : gb257 ≠ gb256); replace BK256 := bF BK256 zq33 hb; clear hb hbox hg; have hnb40 := NB256_225.out; have hnc40 := NB225_256.out; have hnb41 := NB256_240.out; have hnc41 := NB240_256.out; have hnb42 := NB256_241.out; have hnc42 := NB241_256.out; have hnb43 := NB256_246.out; have hnc43 := NB246_256.out; have hnb44 := NB256_257.out; have hnc44 := NB257_256.out; obtain ⟨hcz45_0, hcz45_1, hfz45_0, hfz45_1⟩ := c2 (w := w39) BK256; obtain ⟨Ao46, co46, eo46⟩ := Kd.R_slice HO250.out; subst eo46; have hnb47 := NB257_225.out; have hnc47 := NB225_257.out; have hnb48 := NB257_240.out; have hnc48 := NB240_257.out; have hnb49 := NB257_241.out; have hnc49 := NB241_257.out; have hnb50 := NB257_246.out; have hnc50 := NB246_257.out; obtain ⟨hcz51_0, hcz51_1, hcz51_2, hcz51_3, hfz51_0, hfz51_1, hfz51_2, hfz51_3⟩ := c4 (w := w39) BK257))
 (try simp only [Act.put, List.setIfInBounds_toArray, List.set_cons_zero, List.set_cons_succ])
 go_cut [59] (fun v59 wc => ∃ (kq : Nat) (x59_12 : Bool), v59 = .bool x59_12 ∧ Aside0 (laws_FnExactTake.j0 kq a1 a2 t239 t255 x59_12 a0_0 l0_1 t231 t232 t235 t236 t237 t238 t242 t243 t247 t248 t251 t252 t253 t254 = some r) ∧ Aside0 (kq ≤ k) ∧ Aside0 (Kd.R k39 39 wc w.heap.size (fun k_ => some k_ ≠ ((.slice Ao36 t243.length co36) : Value).ownBlock ∧ some k_ ≠ ((.slice Ao46 t248.length co46) : Value).ownBlock ∧ k_ ≠ gb241 ∧ k_ ≠ gb257) (.slice Ao26 t232.length co26) t232) ∧ Aside0 (Kd.R k39 39 wc w.heap.size (fun k_ => some k_ ≠ ((.slice Ao26 t232.length co26) : Value).ownBlock ∧ some k_ ≠ ((.slice Ao46 t248.length co46) : Value).ownBlock ∧ k_ ≠ gb241 ∧ k_ ≠ gb257) (.slice Ao36 t243.length co36) t243) ∧ Aside0 (Kd.R k39 39 wc w.heap.size (fun k_ => some k_ ≠ ((.slice Ao26 t232.length co26) : Value).ownBlock ∧ some k_ ≠ ((.slice Ao36 t243.length co36) : Value).ownBlock ∧ k_ ≠ gb241 ∧ k_ ≠ gb257) (.slice Ao46 t248.length co46) t248) ∧ Aside0 (wc.heap[gb225]? = some (.cells #[.int .i64 a0_0, (.slice A0_1 l0_1.length c0_1)] 33 (0, 0))) ∧ Aside0 (wc.heap[gb240]? = some (.cells #[.int .i64 t231, (.slice Ao26 t232.length co26)] 37 (0, 0))) ∧ Aside0 (wc.heap[gb241]? = some (.cells #[.int .i64 t235, .int .i64 t236, .int .i64 t237, .string t238] 39 (0, 0))) ∧ Aside0 (wc.heap[gb246]? = some (.cells #[.int .i64 t242, (.slice Ao36 t243.length co36)] 37 (0, 0))) ∧ Aside0 (wc.heap[gb256]? = some (.cells #[.int .i64 t247, (.slice Ao46 t248.length co46)] 37 (0, 0))) ∧ Aside0 (wc.heap[gb257]? = some (.cells #[.int .i64 t251, .int .i64 t252, .int .i64 t253, .string t254] 39 (0, 0))) ∧ Aside0 (Below w.heap.size w wc))
 case first =>
  have H := HC13.out
  clear HC13
  replace H := Option.bind_eq_some_iff.mp H
  obtain ⟨t258, A520, H⟩ := H
  try dsimp only at H
  have A52 := Aside0.mk A520
  clear A520
  by_cases c53 : t258 = true
  ·
   subst c53
   have H1 : ((laws_eqPacket.f t251 t252 t253 t254 t235 t236 t237 t238).bind fun t259 => (if t259 = true then (laws_FnExactTake.j0 k a1 a2 t239 t255 (t255 != t239) a0_0 l0_1 t231 t232 t235 t236 t237 t238 t242 t243 t247 t248 t251 t252 t253 t254) else (laws_FnExactTake.j0 k a1 a2 t239 t255 true a0_0 l0_1 t231 t232 t235 t236 t237 t238 t242 t243 t247 t248 t251 t252 t253 t254))) = some r := by rw [if_pos rfl] at H; exact H
   clear H
   have H := H1
   clear H1
   replace H := Option.bind_eq_some_iff.mp H
   obtain ⟨t259, A540, H⟩ := H
   try dsimp only at H
   have A54 := Aside0.mk A540
   clear A540
   by_cases c55 : t259 = true
   ·
    subst c55
    have H1 : (laws_FnExactTake.j0 k a1 a2 t239 t255 (t255 != t239) a0_0 l0_1 t231 t232 t235 t236 t237 t238 t242 t243 t247 t248 t251 t252 t253 t254) = some r := by rw [if_pos rfl] at H; exact H
    clear H
    have H := H1
    clear H1
    have H' := Aside0.mk H
    clear H
    have hnb56 := NB256_225.out
    have hnc56 := NB225_256.out
    have hnb57 := NB256_240.out
    have hnc57 := NB240_256.out
    have hnb58 := NB256_241.out
    have hnc58 := NB241_256.out
    have hnb59 := NB256_246.out
    have hnc59 := NB246_256.out
    have hnb60 := NB256_257.out
    have hnc60 := NB257_256.out
    obtain ⟨hcz61_0, hcz61_1, hfz61_0, hfz61_1⟩ := c2 (w := w39) BK256
    have hnb62 := NB240_225.out
    have hnc62 := NB225_240.out
    have hnb63 := NB240_241.out
    have hnc63 := NB241_240.out
    have hnb64 := NB240_246.out
    have hnc64 := NB246_240.out
    have hnb65 := NB240_257.out
    have hnc65 := NB257_240.out
    obtain ⟨hcz66_0, hcz66_1, hfz66_0, hfz66_1⟩ := c2 (w := w39) BK240
    go_wp2_with (first | ((with_reducible refine gC 21 rfl ?_); refine gL 47 Try.func21 #[.agg #[.int .i64 t247, .slice Ao46 t248.length co46], .agg #[.int .i64 t231, .slice Ao26 t232.length co26]] ?_; (with_reducible refine (laws_eqNet.calls k t247 _ _ t248 t231 _ _ t232 true _ ?_ ?_ ?_ ?_ A52.out).mono ?_); exact zq214; exact zq36; exact zq215; exact zq38; rintro e w67 ⟨rfl, hb⟩; refine ⟨_, rfl, ?_⟩; replace HO230 := rB zq39 hb; replace HO234 := rB zq37 hb; replace HO245 := rB zq40 hb; replace HO250 := rB zq35 hb; replace BK225 := bF BK225 zq41 hb; replace BK240 := bF BK240 zq42 hb; replace BK241 := bF BK241 zq43 hb; replace BK246 := bF BK246 zq44 hb; replace BK256 := bB (g := gb256) (o := .cells #[.int .i64 t247, .slice Ao46 t248.length co46] 37 (0, 0)) zq45 hb; replace BK257 := bB (g := gb257) (o := .cells #[.int .i64 t251, .int .i64 t252, .int .i64 t253, .string t254] 39 (0, 0)) zq46 hb; replace HB := sB zq47 hb; clear hb; have hnb68 := NB257_225.out; have hnc68 := NB225_257.out; have hnb69 := NB257_241.out; have hnc69 := NB241_257.out; have hnb70 := NB257_246.out; have hnc70 := NB246_257.out; obtain ⟨hcz71_0, hcz71_1, hcz71_2, hcz71_3, hfz71_0, hfz71_1, hfz71_2, hfz71_3⟩ := c4 (w := w67) BK257; have hnb72 := NB241_225.out; have hnc72 := NB225_241.out; have hnb73 := NB241_246.out; have hnc73 := NB246_241.out; obtain ⟨hcz74_0, hcz74_1, hcz74_2, hcz74_3, hfz74_0, hfz74_1, hfz74_2, hfz74_3⟩ := c4 (w := w67) BK241) | (go_at_call 22; (with_reducible refine (laws_eqPacket.calls t251 t252 t253 t254 t235 t236 t237 t238 true _ A54.out).mono ?_); rintro e w75 ⟨rfl, hb⟩; replace HO230 := rB zq16 hb; replace HO234 := rB zq17 hb; replace HO245 := rB zq24 hb; replace HO250 := rB zq31 hb; replace BK225 := bF BK225 zq14 hb; replace BK240 := bF BK240 zq18 hb; replace BK241 := bF BK241 zq25 hb; replace BK246 := bF BK246 zq32 hb; replace BK256 := bF BK256 zq33 hb; replace BK257 := bF BK257 zq48 hb; replace HB := sB zq47 hb; clear hb))
    go_meet
    case rel => exact ⟨_, ((t255 != t239)), zq5, H', ⟨zq49⟩, ⟨zq50⟩, ⟨zq51⟩, ⟨zq52⟩, ⟨zq14⟩, ⟨zq18⟩, ⟨zq25⟩, ⟨zq32⟩, ⟨zq33⟩, ⟨zq48⟩, ⟨zq47⟩⟩
   replace c55 := Bool.eq_false_iff.mpr c55
   subst c55
   have H1 : (laws_FnExactTake.j0 k a1 a2 t239 t255 true a0_0 l0_1 t231 t232 t235 t236 t237 t238 t242 t243 t247 t248 t251 t252 t253 t254) = some r := by rw [if_neg (show ¬ (false = true) by decide)] at H; exact H
   clear H
   have H := H1
   clear H1
   have H' := Aside0.mk H
   clear H
   have hnb76 := NB256_225.out
   have hnc76 := NB225_256.out
   have hnb77 := NB256_240.out
   have hnc77 := NB240_256.out
   have hnb78 := NB256_241.out
   have hnc78 := NB241_256.out
   have hnb79 := NB256_246.out
   have hnc79 := NB246_256.out
   have hnb80 := NB256_257.out
   have hnc80 := NB257_256.out
   obtain ⟨hcz81_0, hcz81_1, hfz81_0, hfz81_1⟩ := c2 (w := w39) BK256
   have hnb82 := NB240_225.out
   have hnc82 := NB225_240.out
   have hnb83 := NB240_241.out
   have hnc83 := NB241_240.out
   have hnb84 := NB240_246.out
   have hnc84 := NB246_240.out
   have hnb85 := NB240_257.out
   have hnc85 := NB257_240.out
   obtain ⟨hcz86_0, hcz86_1, hfz86_0, hfz86_1⟩ := c2 (w := w39) BK240
   go_wp2_with (first | ((with_reducible refine gC 21 rfl ?_); refine gL 47 Try.func21 #[.agg #[.int .i64 t247, .slice Ao46 t248.length co46], .agg #[.int .i64 t231, .slice Ao26 t232.length co26]] ?_; (with_reducible refine (laws_eqNet.calls k t247 _ _ t248 t231 _ _ t232 true _ ?_ ?_ ?_ ?_ A52.out).mono ?_); exact zq214; exact zq36; exact zq215; exact zq38; rintro e w87 ⟨rfl, hb⟩; refine ⟨_, rfl, ?_⟩; replace HO230 := rB zq39 hb; replace HO234 := rB zq37 hb; replace HO245 := rB zq40 hb; replace HO250 := rB zq35 hb; replace BK225 := bF BK225 zq41 hb; replace BK240 := bF BK240 zq42 hb; replace BK241 := bF BK241 zq43 hb; replace BK246 := bF BK246 zq44 hb; replace BK256 := bB (g := gb256) (o := .cells #[.int .i64 t247, .slice Ao46 t248.length co46] 37 (0, 0)) zq45 hb; replace BK257 := bB (g := gb257) (o := .cells #[.int .i64 t251, .int .i64 t252, .int .i64 t253, .string t254] 39 (0, 0)) zq46 hb; replace HB := sB zq47 hb; clear hb; have hnb88 := NB257_225.out; have hnc88 := NB225_257.out; have hnb89 := NB257_241.out; have hnc89 := NB241_257.out; have hnb90 := NB257_246.out; have hnc90 := NB246_257.out; obtain ⟨hcz91_0, hcz91_1, hcz91_2, hcz91_3, hfz91_0, hfz91_1, hfz91_2, hfz91_3⟩ := c4 (w := w87) BK257; have hnb92 := NB241_225.out; have hnc92 := NB225_241.out; have hnb93 := NB241_246.out; have hnc93 := NB246_241.out; obtain ⟨hcz94_0, hcz94_1, hcz94_2, hcz94_3, hfz94_0, hfz94_1, hfz94_2, hfz94_3⟩ := c4 (w := w87) BK241) | (go_at_call 22; (with_reducible refine (laws_eqPacket.calls t251 t252 t253 t254 t235 t236 t237 t238 false _ A54.out).mono ?_); rintro e w95 ⟨rfl, hb⟩; replace HO230 := rB zq16 hb; replace HO234 := rB zq17 hb; replace HO245 := rB zq24 hb; replace HO250 := rB zq31 hb; replace BK225 := bF BK225 zq14 hb; replace BK240 := bF BK240 zq18 hb; replace BK241 := bF BK241 zq25 hb; replace BK246 := bF BK246 zq32 hb; replace BK256 := bF BK256 zq33 hb; replace BK257 := bF BK257 zq48 hb; replace HB := sB zq47 hb; clear hb))
   go_meet
   case rel => exact ⟨_, (true), zq5, H', ⟨zq49⟩, ⟨zq50⟩, ⟨zq51⟩, ⟨zq52⟩, ⟨zq14⟩, ⟨zq18⟩, ⟨zq25⟩, ⟨zq32⟩, ⟨zq33⟩, ⟨zq48⟩, ⟨zq47⟩⟩
  replace c53 := Bool.eq_false_iff.mpr c53
  subst c53
  have H1 : (laws_FnExactTake.j0 k a1 a2 t239 t255 true a0_0 l0_1 t231 t232 t235 t236 t237 t238 t242 t243 t247 t248 t251 t252 t253 t254) = some r := by rw [if_neg (show ¬ (false = true) by decide)] at H; exact H
  clear H
  have H := H1
  clear H1
  have H' := Aside0.mk H
  clear H
  have hnb96 := NB256_225.out
  have hnc96 := NB225_256.out
  have hnb97 := NB256_240.out
  have hnc97 := NB240_256.out
  have hnb98 := NB256_241.out
  have hnc98 := NB241_256.out
  have hnb99 := NB256_246.out
  have hnc99 := NB246_256.out
  have hnb100 := NB256_257.out
  have hnc100 := NB257_256.out
  obtain ⟨hcz101_0, hcz101_1, hfz101_0, hfz101_1⟩ := c2 (w := w39) BK256
  have hnb102 := NB240_225.out
  have hnc102 := NB225_240.out
  have hnb103 := NB240_241.out
  have hnc103 := NB241_240.out
  have hnb104 := NB240_246.out
  have hnc104 := NB246_240.out
  have hnb105 := NB240_257.out
  have hnc105 := NB257_240.out
  obtain ⟨hcz106_0, hcz106_1, hfz106_0, hfz106_1⟩ := c2 (w := w39) BK240
  go_wp2_with (first | ((with_reducible refine gC 21 rfl ?_); refine gL 47 Try.func21 #[.agg #[.int .i64 t247, .slice Ao46 t248.length co46], .agg #[.int .i64 t231, .slice Ao26 t232.length co26]] ?_; (with_reducible refine (laws_eqNet.calls k t247 _ _ t248 t231 _ _ t232 false _ ?_ ?_ ?_ ?_ A52.out).mono ?_); exact zq214; exact zq36; exact zq215; exact zq38; rintro e w107 ⟨rfl, hb⟩; refine ⟨_, rfl, ?_⟩; replace HO230 := rB zq39 hb; replace HO234 := rB zq37 hb; replace HO245 := rB zq40 hb; replace HO250 := rB zq35 hb; replace BK225 := bF BK225 zq41 hb; replace BK240 := bF BK240 zq42 hb; replace BK241 := bF BK241 zq43 hb; replace BK246 := bF BK246 zq44 hb; replace BK256 := bB (g := gb256) (o := .cells #[.int .i64 t247, .slice Ao46 t248.length co46] 37 (0, 0)) zq45 hb; replace BK257 := bB (g := gb257) (o := .cells #[.int .i64 t251, .int .i64 t252, .int .i64 t253, .string t254] 39 (0, 0)) zq46 hb; replace HB := sB zq47 hb; clear hb))
  go_meet
  case rel => exact ⟨_, (true), zq5, H', ⟨zq49⟩, ⟨zq50⟩, ⟨zq51⟩, ⟨zq52⟩, ⟨zq14⟩, ⟨zq18⟩, ⟨zq25⟩, ⟨zq32⟩, ⟨zq33⟩, ⟨zq48⟩, ⟨zq47⟩⟩
 case rest =>
  clear HC13
  try clear c1
  try clear c2
  try clear p2
  try clear c3
  try clear c4
  try clear c5
  try clear c5b0
  try clear c6
  try clear c7
  try clear c8
  try clear c9
  try clear c10
  try clear c17
  try clear c18
  try clear c19
  try clear c20
  try clear c21
  try clear c23
  try clear c24
  try clear c27
  try clear c32
  try clear c33
  try clear c34
  try clear c40
  try clear c41
  try clear c42
  try clear c43
  try clear c44
  try clear c47
  try clear c48
  try clear c49
  try clear c50
  try clear c53
  try clear c55
  try clear c56
  try clear c57
  try clear c58
  try clear c59
  try clear c60
  try clear c62
  try clear c63
  try clear c64
  try clear c65
  try clear c68
  try clear c69
  try clear c70
  try clear c72
  try clear c73
  try clear c76
  try clear c77
  try clear c78
  try clear c79
  try clear c80
  try clear c82
  try clear c83
  try clear c84
  try clear c85
  try clear c88
  try clear c89
  try clear c90
  try clear c92
  try clear c93
  try clear c96
  try clear c97
  try clear c98
  try clear c99
  try clear c100
  try clear c102
  try clear c103
  try clear c104
  try clear c105
  try clear hcz101_0
  try clear hcz101_1
  try clear hcz106_0
  try clear hcz106_1
  try clear hcz15_0
  try clear hcz15_1
  try clear hcz17_0
  try clear hcz17_1
  try clear hcz25_0
  try clear hcz25_1
  try clear hcz28_0
  try clear hcz28_1
  try clear hcz28_2
  try clear hcz28_3
  try clear hcz29_0
  try clear hcz29_1
  try clear hcz35_0
  try clear hcz35_1
  try clear hcz45_0
  try clear hcz45_1
  try clear hcz51_0
  try clear hcz51_1
  try clear hcz51_2
  try clear hcz51_3
  try clear hcz61_0
  try clear hcz61_1
  try clear hcz66_0
  try clear hcz66_1
  try clear hcz71_0
  try clear hcz71_1
  try clear hcz71_2
  try clear hcz71_3
  try clear hcz74_0
  try clear hcz74_1
  try clear hcz74_2
  try clear hcz74_3
  try clear hcz7_0
  try clear hcz7_1
  try clear hcz81_0
  try clear hcz81_1
  try clear hcz86_0
  try clear hcz86_1
  try clear hcz91_0
  try clear hcz91_1
  try clear hcz91_2
  try clear hcz91_3
  try clear hcz94_0
  try clear hcz94_1
  try clear hcz94_2
  try clear hcz94_3
  try clear hfz101_0
  try clear hfz101_1
  try clear hfz106_0
  try clear hfz106_1
  try clear hfz15_0
  try clear hfz15_1
  try clear hfz17_0
  try clear hfz17_1
  try clear hfz25_0
  try clear hfz25_1
  try clear hfz28_0
  try clear hfz28_1
  try clear hfz28_2
  try clear hfz28_3
  try clear hfz29_0
  try clear hfz29_1
  try clear hfz35_0
  try clear hfz35_1
  try clear hfz45_0
  try clear hfz45_1
  try clear hfz51_0
  try clear hfz51_1
  try clear hfz51_2
  try clear hfz51_3
  try clear hfz61_0
  try clear hfz61_1
  try clear hfz66_0
  try clear hfz66_1
  try clear hfz71_0
  try clear hfz71_1
  try clear hfz71_2
  try clear hfz71_3
  try clear hfz74_0
  try clear hfz74_1
  try clear hfz74_2
  try clear hfz74_3
  try clear hfz7_0
  try clear hfz7_1
  try clear hfz81_0
  try clear hfz81_1
  try clear hfz86_0
  try clear hfz86_1
  try clear hfz91_0
  try clear hfz91_1
  try clear hfz91_2
  try clear hfz91_3
  try clear hfz94_0
  try clear hfz94_1
  try clear hfz94_2
  try clear hfz94_3
  obtain ⟨kq, x59_12, rfl, HA, HJ12, HO_241001, HO_247001, HO_257001, BK225, BK240, BK241, BK246, BK256, BK257, HB⟩ := hcut
  cases kq with
  | zero => exact absurd HA.out (by simp [laws_FnExactTake.j0])
  | succ kj12 =>
   have H := HA.out
   clear HA
   simp only [laws_FnExactTake.j0] at H
   by_cases c108 : x59_12 = true
   ·
    subst c108
    have H1 : (some false) = some r := by rw [if_pos rfl] at H; exact H
    clear H
    have H := H1
    clear H1
    obtain rfl := Option.some.inj H
    go_wp2
    go_ret
    exact ⟨zq3, zq47⟩
   replace c108 := Bool.eq_false_iff.mpr c108
   subst c108
   have H1 : ((laws_toNet.f kj12 a0_0 l0_1).bind fun bt260 => ((laws_eqNet.f kj12 t242 t243 bt260.1 bt260.2).bind fun t264 => (if t264 = true then ((laws_markNet.f kj12 t242 t243 1).bind fun bt265 => (if bt265.1 < 0 then (laws_FnExactTake.j1 kj12 a1 a2 t239 true a0_0 l0_1 t231 t232 t235 t236 t237 t238 t247 t248) else ((laws_eqNet.f kj12 t247 t248 t231 t232).bind fun t267 => (if t267 = true then ((laws_eqPacket.f t251 t252 t253 t254 t235 t236 t237 t238).bind fun t268 => (if t268 = true then (laws_FnExactTake.j1 kj12 a1 a2 t239 (t255 != t239) a0_0 l0_1 t231 t232 t235 t236 t237 t238 t247 t248) else (laws_FnExactTake.j1 kj12 a1 a2 t239 true a0_0 l0_1 t231 t232 t235 t236 t237 t238 t247 t248))) else (laws_FnExactTake.j1 kj12 a1 a2 t239 true a0_0 l0_1 t231 t232 t235 t236 t237 t238 t247 t248))))) else (some false)))) = some r := by rw [if_neg (show ¬ (false = true) by decide)] at H; exact H
   clear H
   have H := H1
   clear H1
   replace H := Option.bind_eq_some_iff.mp H
   obtain ⟨⟨t260, t261⟩, A1090, H⟩ := H
   try dsimp only at H
   have A109 := Aside0.mk A1090
   clear A1090
   replace H := Option.bind_eq_some_iff.mp H
   obtain ⟨t264, A1100, H⟩ := H
   try dsimp only at H
   have A110 := Aside0.mk A1100
   clear A1100
   by_cases c111 : t264 = true
   ·
    subst c111
    have H1 : ((laws_markNet.f kj12 t242 t243 1).bind fun bt265 => (if bt265.1 < 0 then (laws_FnExactTake.j1 kj12 a1 a2 t239 true a0_0 l0_1 t231 t232 t235 t236 t237 t238 t247 t248) else ((laws_eqNet.f kj12 t247 t248 t231 t232).bind fun t267 => (if t267 = true then ((laws_eqPacket.f t251 t252 t253 t254 t235 t236 t237 t238).bind fun t268 => (if t268 = true then (laws_FnExactTake.j1 kj12 a1 a2 t239 (t255 != t239) a0_0 l0_1 t231 t232 t235 t236 t237 t238 t247 t248) else (laws_FnExactTake.j1 kj12 a1 a2 t239 true a0_0 l0_1 t231 t232 t235 t236 t237 t238 t247 t248))) else (laws_FnExactTake.j1 kj12 a1 a2 t239 true a0_0 l0_1 t231 t232 t235 t236 t237 t238 t247 t248))))) = some r := by rw [if_pos rfl] at H; exact H
    clear H
    have H := H1
    clear H1
    replace H := Option.bind_eq_some_iff.mp H
    obtain ⟨⟨t265, t266⟩, A1120, H⟩ := H
    try dsimp only at H
    have A112 := Aside0.mk A1120
    clear A1120
    have HC113 := Aside0.mk H
    clear H
    try go_wp2
    replace HO_241001 := Aside0.mk (Kd.R_drew HO_241001.out)
    replace HO_247001 := Aside0.mk (Kd.R_drew HO_247001.out)
    replace HO_257001 := Aside0.mk (Kd.R_drew HO_257001.out)
    replace BK225 := Aside0.mk (blk_drew BK225.out)
    replace BK240 := Aside0.mk (blk_drew BK240.out)
    replace BK241 := Aside0.mk (blk_drew BK241.out)
    replace BK246 := Aside0.mk (blk_drew BK246.out)
    replace BK256 := Aside0.mk (blk_drew BK256.out)
    replace BK257 := Aside0.mk (blk_drew BK257.out)
    replace HB := Aside0.mk (below_drew1 HB.out)
    refine start_ (n := 5) (S := fun w' => w'.cell? ⟨gb246, 0, none⟩ = some (.int .i64 t242) ∧ w'.cell? ⟨gb246, 1, none⟩ = some (.slice Ao36 t243.length co36) ∧ w'.cell? ⟨gb225, 0, none⟩ = some (.int .i64 a0_0) ∧ w'.cell? ⟨gb225, 1, none⟩ = some (.slice A0_1 l0_1.length c0_1)) (ds := []) #[false, false, false, false, false] (by kernel_rfl) rfl rfl ⟨(blk_cell BK246.out 0).trans rfl, (blk_cell BK246.out 1).trans rfl, (blk_cell BK225.out 0).trans rfl, (blk_cell BK225.out 1).trans rfl⟩ (fun hHeld => ?_)
    generalize wc.drew = w114 at HO_241001 HO_247001 HO_257001 BK225 BK240 BK241 BK246 BK256 BK257 HB hHeld ⊢
    refine take_ (i := 0) (N := some 60) (v := ?_) (a' := ?_) #[true, false, false, false, false] rfl rfl (by kernel_rfl) (fun _ _ _ h => h) (Or.inl ⟨by rfl, ?_⟩) hHeld ?_ ?_
    rotate_left
    exact zq287
    rotate_left
    exact zq288
    refine take_ (i := 1) (N := some 61) (v := ?_) (a' := ?_) #[true, true, false, false, false] rfl rfl (by kernel_rfl) (fun _ _ _ h => h) (Or.inl ⟨by rfl, ?_⟩) hHeld ?_ ?_
    rotate_left
    exact zq287
    rotate_left
    exact zq288
    refine one_ (i := 2) (N := some 62) #[true, true, true, false, false] rfl rfl (by kernel_rfl) (by decide) (fun K hK => ?_)
    refine goes_ Try.func19 (by kernel_rfl) rfl #[.agg #[.int .i64 a0_0, .slice A0_1 l0_1.length c0_1]] (by rfl) rfl rfl zq7 ?_
    with_reducible refine (laws_toNet.calls kj12 a0_0 _ _ l0_1 t260 t261 _ ?side1 ?side2 A109.out).mono ?_
    (case side1 => exact zq9)
    (case side2 => exact zq10)
    rintro e w115 ⟨v262, rfl, ho0, hb⟩
    refine ⟨_, rfl, ?_⟩
    have HO263 := Aside0.mk (Kd.R_lower (Kd.R_newB (Kd.R_newB (Kd.R_new' (Kd.R_new' (Kd.R_new' ho0 (Kd.R_lt zq53)) (Kd.R_lt zq54)) (Kd.R_lt zq55)) (g := gb241) (o := .cells #[.int .i64 t235, .int .i64 t236, .int .i64 t237, .string t238] 39 (0, 0)) zq25) (g := gb257) (o := .cells #[.int .i64 t251, .int .i64 t252, .int .i64 t253, .string t254] 39 (0, 0)) zq48) (below_size zq47))
    replace HO_241001 := Aside0.mk (Kd.R_elder' zq53 (Kd.R_base ho0) hb)
    replace HO_247001 := Aside0.mk (Kd.R_elder' zq54 (Kd.R_base ho0) hb)
    replace HO_257001 := Aside0.mk (Kd.R_elder' zq55 (Kd.R_base ho0) hb)
    replace BK225 := bF BK225 zq14 hb
    replace BK240 := bF BK240 zq18 hb
    replace BK241 := bF BK241 zq25 hb
    replace BK246 := bF BK246 zq32 hb
    replace BK256 := bF BK256 zq33 hb
    replace BK257 := bF BK257 zq48 hb
    replace HB := sB zq47 hb
    (try clear hb)
    (try clear hb2)
    (try clear hk)
    (try clear hi)
    (try clear ho0)
    obtain ⟨Ao116, co116, eo116⟩ := Kd.R_slice HO263.out
    (first | subst eo116 | (injection eo116 with f1_ f2_ f3_; have f4_ := f1_.symm; have f5_ := f3_.symm; clear f1_ f2_ f3_; subst f4_; subst f5_))
    refine hK.out _ _ ⟨(blk_cell BK246.out 0).trans rfl, (blk_cell BK246.out 1).trans rfl, (blk_cell BK225.out 0).trans rfl, (blk_cell BK225.out 1).trans rfl⟩ (fun hHeld => ?_)
    clear hK K
    refine norm_ (a' := ?_) ?_ ?_
    rotate_left
    ·
     show Act.put _ (some 62) _ = _
     simp only [Act.put, List.setIfInBounds_toArray, List.set_cons_zero, List.set_cons_succ, i64_w, i32_w]
     rfl
    refine one_ (i := 3) (N := some 63) #[true, true, true, true, false] rfl rfl (by kernel_rfl) (by decide) (fun K hK => ?_)
    refine goes_ Try.func21 (by kernel_rfl) rfl #[.agg #[.int .i64 t242, .slice Ao36 t243.length co36], .agg #[.int .i64 t260, .slice Ao116 t261.length co116]] (by rfl) rfl rfl zq7 ?_
    with_reducible refine (laws_eqNet.calls kj12 t242 _ _ t243 t260 _ _ t261 true _ ?side1 ?side2 ?side3 ?side4 A110.out).mono ?_
    (case side1 => exact zq56)
    (case side2 => exact (Kd.R_reads' HO_247001.out).2.1)
    (case side3 => exact zq57)
    (case side4 => exact (Kd.R_reads' HO263.out).2.1)
    rintro e w117 ⟨rfl, hb⟩
    refine ⟨_, rfl, ?_⟩
    replace HO_241001 := rB zq53 hb
    replace HO_247001 := rB zq54 hb
    replace HO_257001 := rB zq55 hb
    replace HO263 := rB zq58 hb
    replace BK225 := bF BK225 zq14 hb
    replace BK240 := bF BK240 zq18 hb
    replace BK241 := bF BK241 zq25 hb
    replace BK246 := bF BK246 zq32 hb
    replace BK256 := bF BK256 zq33 hb
    replace BK257 := bF BK257 zq48 hb
    replace HB := sB zq47 hb
    (try clear hb)
    (try clear hb2)
    (try clear hk)
    (try clear hi)
    refine hK.out _ _ ⟨(blk_cell BK246.out 0).trans rfl, (blk_cell BK246.out 1).trans rfl, (blk_cell BK225.out 0).trans rfl, (blk_cell BK225.out 1).trans rfl⟩ (fun hHeld => ?_)
    clear hK K
    refine norm_ (a' := ?_) ?_ ?_
    rotate_left
    ·
     show Act.put _ (some 63) _ = _
     simp only [Act.put, List.setIfInBounds_toArray, List.set_cons_zero, List.set_cons_succ, i64_w, i32_w]
     rfl
    refine pure_ (i := 4) (N := some 64) (v := ?_) (a' := ?_) #[true, true, true, true, true] rfl rfl (by kernel_rfl) (fun _ _ _ h => h) (Or.inl ⟨by rfl, ?_⟩) ?_ ?_
    rotate_left
    exact zq289
    rotate_left
    exact zq288
    refine done_ (by kernel_rfl) ?_
    have hnb118 := NB246_225.out
    have hnc118 := NB225_246.out
    have hnb119 := NB246_240.out
    have hnc119 := NB240_246.out
    have hnb120 := NB246_241.out
    have hnc120 := NB241_246.out
    have hnb121 := NB246_256.out
    have hnc121 := NB256_246.out
    have hnb122 := NB246_257.out
    have hnc122 := NB257_246.out
    obtain ⟨hcz123_0, hcz123_1, hfz123_0, hfz123_1⟩ := c2 (w := w117) BK246
    go_upto_region 14 with (first | ((with_reducible refine gC 23 rfl ?_); refine gL 67 Try.func23 #[.agg #[.int .i64 t242, .slice Ao36 t243.length co36], .int .i64 1] ?_; (with_reducible refine (laws_markNet.calls kj12 t242 (fun k_ => some k_ = (.slice Ao36 t243.length co36 : Value).ownBlock) (.slice Ao36 t243.length co36) t243 1 t265 t266 w _ ?_ ?_ A112.out).mono ?_); exact zq47; exact Kd.R_tight rfl HO_247001.out; rintro e w124 ⟨rfl, hy0, hb, hkp⟩; refine ⟨_, rfl, ?_⟩; replace HO_241001 := Aside0.mk (Kd.R_mono (ok' := fun k_ => some k_ ≠ (.slice Ao36 t243.length co36 : Value).ownBlock ∧ some k_ ≠ (.slice Ao46 t248.length co46 : Value).ownBlock ∧ some k_ ≠ (.slice Ao116 t261.length co116 : Value).ownBlock ∧ k_ ≠ gb241 ∧ k_ ≠ gb257) (Kd.R_keptB (HO_241001.out) hkp (fun k_ hk_ hs_ => by first | exact (hk_.1.1) hs_ | simp_all)) (fun k_ hk_ => by first | exact ⟨hk_.1.1.1, hk_.1.1.2.1, hk_.1.2, hk_.1.1.2.2.1, hk_.1.1.2.2.2⟩ | simp_all)); replace HO_257001 := Aside0.mk (Kd.R_mono (ok' := fun k_ => some k_ ≠ (.slice Ao26 t232.length co26 : Value).ownBlock ∧ some k_ ≠ (.slice Ao36 t243.length co36 : Value).ownBlock ∧ some k_ ≠ (.slice Ao116 t261.length co116 : Value).ownBlock ∧ k_ ≠ gb241 ∧ k_ ≠ gb257) (Kd.R_keptB (HO_257001.out) hkp (fun k_ hk_ hs_ => by first | exact (hk_.1.2.1) hs_ | simp_all)) (fun k_ hk_ => by first | exact ⟨hk_.1.1.1, hk_.1.1.2.1, hk_.1.2, hk_.1.1.2.2.1, hk_.1.1.2.2.2⟩ | simp_all)); replace BK225 := Aside0.mk (blk_kept zq59 hkp (fun hs_ => (fun e_ => (Kd.R_ne HO_247001.out BK225.out (by decide)) e_) hs_)); replace BK240 := Aside0.mk (blk_kept zq60 hkp (fun hs_ => (fun e_ => (Kd.R_ne HO_247001.out BK240.out (by decide)) e_) hs_)); replace BK241 := Aside0.mk (blk_kept zq61 hkp (fun hs_ => (fun e_ => (Kd.R_away HO_247001.out (fun _ hk => hk.1.2.2.1)) e_) hs_)); replace BK246 := Aside0.mk (blk_kept zq62 hkp (fun hs_ => (fun e_ => (Kd.R_ne HO_247001.out BK246.out (by decide)) e_) hs_)); replace BK256 := Aside0.mk (blk_kept zq63 hkp (fun hs_ => (fun e_ => (Kd.R_ne HO_247001.out BK256.out (by decide)) e_) hs_)); replace BK257 := Aside0.mk (blk_kept zq64 hkp (fun hs_ => (fun e_ => (Kd.R_away HO_247001.out (fun _ hk => hk.1.2.2.2)) e_) hs_)); replace HO_247001 := Aside0.mk (Kd.R_reok rfl hy0 (fun k_ e_ => HO_247001.out.1 k_ e_)); replace HO263 := Aside0.mk (Kd.R_mono (ok' := fun k_ => some k_ ≠ (.slice Ao26 t232.length co26 : Value).ownBlock ∧ some k_ ≠ (.slice Ao36 t243.length co36 : Value).ownBlock ∧ some k_ ≠ (.slice Ao46 t248.length co46 : Value).ownBlock ∧ k_ ≠ gb241 ∧ k_ ≠ gb257) (Kd.R_keptB (HO263.out) hkp (fun k_ hk_ hs_ => by first | exact (hk_.1.1.1.2) hs_ | simp_all)) (fun k_ hk_ => by first | exact ⟨hk_.1.1.1.1.1.2, hk_.1.1.1.1.2, hk_.1.1.1.2, hk_.1.1.2, hk_.1.2⟩ | simp_all)); replace HB := Aside0.mk hb; clear hb; (try clear hkp); (try clear hy0)))
    (try simp only [Act.put, List.setIfInBounds_toArray, List.set_cons_zero, List.set_cons_succ])
    go_cut [86] (fun v86 wc => ∃ (kq : Nat) (x86_112 : Bool), v86 = .bool x86_112 ∧ Aside0 (laws_FnExactTake.j1 kq a1 a2 t239 x86_112 a0_0 l0_1 t231 t232 t235 t236 t237 t238 t247 t248 = some r) ∧ Aside0 (kq ≤ kj12) ∧ Aside0 (Kd.R k39 39 wc w.heap.size (fun k_ => some k_ ≠ ((.slice Ao36 t243.length co36) : Value).ownBlock ∧ some k_ ≠ ((.slice Ao46 t248.length co46) : Value).ownBlock ∧ k_ ≠ gb241 ∧ k_ ≠ gb257) (.slice Ao26 t232.length co26) t232) ∧ Aside0 (Kd.R k39 39 wc w.heap.size (fun k_ => some k_ ≠ ((.slice Ao26 t232.length co26) : Value).ownBlock ∧ some k_ ≠ ((.slice Ao46 t248.length co46) : Value).ownBlock ∧ k_ ≠ gb241 ∧ k_ ≠ gb257) (.slice Ao36 t243.length co36) t266) ∧ Aside0 (Kd.R k39 39 wc w.heap.size (fun k_ => some k_ ≠ ((.slice Ao26 t232.length co26) : Value).ownBlock ∧ some k_ ≠ ((.slice Ao36 t243.length co36) : Value).ownBlock ∧ k_ ≠ gb241 ∧ k_ ≠ gb257) (.slice Ao46 t248.length co46) t248) ∧ Aside0 (wc.heap[gb225]? = some (.cells #[.int .i64 a0_0, (.slice A0_1 l0_1.length c0_1)] 33 (0, 0))) ∧ Aside0 (wc.heap[gb240]? = some (.cells #[.int .i64 t231, (.slice Ao26 t232.length co26)] 37 (0, 0))) ∧ Aside0 (wc.heap[gb241]? = some (.cells #[.int .i64 t235, .int .i64 t236, .int .i64 t237, .string t238] 39 (0, 0))) ∧ Aside0 (wc.heap[gb246]? = some (.cells #[.int .i64 t242, (.slice Ao36 t243.length co36)] 37 (0, 0))) ∧ Aside0 (wc.heap[gb256]? = some (.cells #[.int .i64 t247, (.slice Ao46 t248.length co46)] 37 (0, 0))) ∧ Aside0 (wc.heap[gb257]? = some (.cells #[.int .i64 t251, .int .i64 t252, .int .i64 t253, .string t254] 39 (0, 0))) ∧ Aside0 (Below w.heap.size w wc))
    case first =>
     have H := HC113.out
     clear HC113
     by_cases c125 : t265 < 0
     ·
      rw [if_pos c125] at H
      have c125b0 := decide_eq_true c125
      clear c125
      (first | rw [c125b0] | (simp only [i64_w, i32_w]; rw [c125b0]) | skip)
      have H' := Aside0.mk H
      clear H
      go_wp2
      go_meet
      case rel => exact ⟨_, (true), zq5, H', ⟨zq65⟩, ⟨zq66⟩, ⟨zq67⟩, ⟨zq68⟩, ⟨zq14⟩, ⟨zq18⟩, ⟨zq25⟩, ⟨zq32⟩, ⟨zq33⟩, ⟨zq48⟩, ⟨zq47⟩⟩
     rw [if_neg c125] at H
     have c125b0 := decide_eq_false c125
     clear c125
     (first | rw [c125b0] | (simp only [i64_w, i32_w]; rw [c125b0]) | skip)
     replace H := Option.bind_eq_some_iff.mp H
     obtain ⟨t267, A1260, H⟩ := H
     try dsimp only at H
     have A126 := Aside0.mk A1260
     clear A1260
     by_cases c127 : t267 = true
     ·
      subst c127
      have H1 : ((laws_eqPacket.f t251 t252 t253 t254 t235 t236 t237 t238).bind fun t268 => (if t268 = true then (laws_FnExactTake.j1 kj12 a1 a2 t239 (t255 != t239) a0_0 l0_1 t231 t232 t235 t236 t237 t238 t247 t248) else (laws_FnExactTake.j1 kj12 a1 a2 t239 true a0_0 l0_1 t231 t232 t235 t236 t237 t238 t247 t248))) = some r := by rw [if_pos rfl] at H; exact H
      clear H
      have H := H1
      clear H1
      replace H := Option.bind_eq_some_iff.mp H
      obtain ⟨t268, A1280, H⟩ := H
      try dsimp only at H
      have A128 := Aside0.mk A1280
      clear A1280
      by_cases c129 : t268 = true
      ·
       subst c129
       have H1 : (laws_FnExactTake.j1 kj12 a1 a2 t239 (t255 != t239) a0_0 l0_1 t231 t232 t235 t236 t237 t238 t247 t248) = some r := by rw [if_pos rfl] at H; exact H
       clear H
       have H := H1
       clear H1
       have H' := Aside0.mk H
       clear H
       have hnb130 := NB256_225.out
       have hnc130 := NB225_256.out
       have hnb131 := NB256_240.out
       have hnc131 := NB240_256.out
       have hnb132 := NB256_241.out
       have hnc132 := NB241_256.out
       have hnb133 := NB256_246.out
       have hnc133 := NB246_256.out
       have hnb134 := NB256_257.out
       have hnc134 := NB257_256.out
       obtain ⟨hcz135_0, hcz135_1, hfz135_0, hfz135_1⟩ := c2 (w := w124) BK256
       have hnb136 := NB240_225.out
       have hnc136 := NB225_240.out
       have hnb137 := NB240_241.out
       have hnc137 := NB241_240.out
       have hnb138 := NB240_246.out
       have hnc138 := NB246_240.out
       have hnb139 := NB240_257.out
       have hnc139 := NB257_240.out
       obtain ⟨hcz140_0, hcz140_1, hfz140_0, hfz140_1⟩ := c2 (w := w124) BK240
       go_wp2_with (first | (go_at_call 21; (with_reducible refine (laws_eqNet.calls kj12 t247 _ _ t248 t231 _ _ t232 true _ ?_ ?_ ?_ ?_ A126.out).mono ?_); exact zq69; exact zq70; exact zq71; exact zq72; rintro e w141 ⟨rfl, hb⟩; replace HO_241001 := rB zq53 hb; replace HO_247001 := rB zq54 hb; replace HO_257001 := rB zq55 hb; replace HO263 := rB zq58 hb; replace BK225 := bF BK225 zq14 hb; replace BK240 := bF BK240 zq18 hb; replace BK241 := bF BK241 zq25 hb; replace BK246 := bF BK246 zq32 hb; replace BK256 := bF BK256 zq33 hb; replace BK257 := bF BK257 zq48 hb; replace HB := sB zq47 hb; clear hb; have hnb142 := NB257_225.out; have hnc142 := NB225_257.out; have hnb143 := NB257_241.out; have hnc143 := NB241_257.out; have hnb144 := NB257_246.out; have hnc144 := NB246_257.out; obtain ⟨hcz145_0, hcz145_1, hcz145_2, hcz145_3, hfz145_0, hfz145_1, hfz145_2, hfz145_3⟩ := c4 (w := w141) BK257; have hnb146 := NB241_225.out; have hnc146 := NB225_241.out; have hnb147 := NB241_246.out; have hnc147 := NB246_241.out; obtain ⟨hcz148_0, hcz148_1, hcz148_2, hcz148_3, hfz148_0, hfz148_1, hfz148_2, hfz148_3⟩ := c4 (w := w141) BK241) | (go_at_call 22; (with_reducible refine (laws_eqPacket.calls t251 t252 t253 t254 t235 t236 t237 t238 true _ A128.out).mono ?_); rintro e w149 ⟨rfl, hb⟩; replace HO_241001 := rB zq53 hb; replace HO_247001 := rB zq54 hb; replace HO_257001 := rB zq55 hb; replace HO263 := rB zq58 hb; replace BK225 := bF BK225 zq14 hb; replace BK240 := bF BK240 zq18 hb; replace BK241 := bF BK241 zq25 hb; replace BK246 := bF BK246 zq32 hb; replace BK256 := bF BK256 zq33 hb; replace BK257 := bF BK257 zq48 hb; replace HB := sB zq47 hb; clear hb))
       go_meet
       case rel => exact ⟨_, ((t255 != t239)), zq5, H', ⟨zq65⟩, ⟨zq66⟩, ⟨zq67⟩, ⟨zq68⟩, ⟨zq14⟩, ⟨zq18⟩, ⟨zq25⟩, ⟨zq32⟩, ⟨zq33⟩, ⟨zq48⟩, ⟨zq47⟩⟩
      replace c129 := Bool.eq_false_iff.mpr c129
      subst c129
      have H1 : (laws_FnExactTake.j1 kj12 a1 a2 t239 true a0_0 l0_1 t231 t232 t235 t236 t237 t238 t247 t248) = some r := by rw [if_neg (show ¬ (false = true) by decide)] at H; exact H
      clear H
      have H := H1
      clear H1
      have H' := Aside0.mk H
      clear H
      have hnb150 := NB256_225.out
      have hnc150 := NB225_256.out
      have hnb151 := NB256_240.out
      have hnc151 := NB240_256.out
      have hnb152 := NB256_241.out
      have hnc152 := NB241_256.out
      have hnb153 := NB256_246.out
      have hnc153 := NB246_256.out
      have hnb154 := NB256_257.out
      have hnc154 := NB257_256.out
      obtain ⟨hcz155_0, hcz155_1, hfz155_0, hfz155_1⟩ := c2 (w := w124) BK256
      have hnb156 := NB240_225.out
      have hnc156 := NB225_240.out
      have hnb157 := NB240_241.out
      have hnc157 := NB241_240.out
      have hnb158 := NB240_246.out
      have hnc158 := NB246_240.out
      have hnb159 := NB240_257.out
      have hnc159 := NB257_240.out
      obtain ⟨hcz160_0, hcz160_1, hfz160_0, hfz160_1⟩ := c2 (w := w124) BK240
      go_wp2_with (first | (go_at_call 21; (with_reducible refine (laws_eqNet.calls kj12 t247 _ _ t248 t231 _ _ t232 true _ ?_ ?_ ?_ ?_ A126.out).mono ?_); exact zq69; exact zq70; exact zq71; exact zq72; rintro e w161 ⟨rfl, hb⟩; replace HO_241001 := rB zq53 hb; replace HO_247001 := rB zq54 hb; replace HO_257001 := rB zq55 hb; replace HO263 := rB zq58 hb; replace BK225 := bF BK225 zq14 hb; replace BK240 := bF BK240 zq18 hb; replace BK241 := bF BK241 zq25 hb; replace BK246 := bF BK246 zq32 hb; replace BK256 := bF BK256 zq33 hb; replace BK257 := bF BK257 zq48 hb; replace HB := sB zq47 hb; clear hb; have hnb162 := NB257_225.out; have hnc162 := NB225_257.out; have hnb163 := NB257_241.out; have hnc163 := NB241_257.out; have hnb164 := NB257_246.out; have hnc164 := NB246_257.out; obtain ⟨hcz165_0, hcz165_1, hcz165_2, hcz165_3, hfz165_0, hfz165_1, hfz165_2, hfz165_3⟩ := c4 (w := w161) BK257; have hnb166 := NB241_225.out; have hnc166 := NB225_241.out; have hnb167 := NB241_246.out; have hnc167 := NB246_241.out; obtain ⟨hcz168_0, hcz168_1, hcz168_2, hcz168_3, hfz168_0, hfz168_1, hfz168_2, hfz168_3⟩ := c4 (w := w161) BK241) | (go_at_call 22; (with_reducible refine (laws_eqPacket.calls t251 t252 t253 t254 t235 t236 t237 t238 false _ A128.out).mono ?_); rintro e w169 ⟨rfl, hb⟩; replace HO_241001 := rB zq53 hb; replace HO_247001 := rB zq54 hb; replace HO_257001 := rB zq55 hb; replace HO263 := rB zq58 hb; replace BK225 := bF BK225 zq14 hb; replace BK240 := bF BK240 zq18 hb; replace BK241 := bF BK241 zq25 hb; replace BK246 := bF BK246 zq32 hb; replace BK256 := bF BK256 zq33 hb; replace BK257 := bF BK257 zq48 hb; replace HB := sB zq47 hb; clear hb))
      go_meet
      case rel => exact ⟨_, (true), zq5, H', ⟨zq65⟩, ⟨zq66⟩, ⟨zq67⟩, ⟨zq68⟩, ⟨zq14⟩, ⟨zq18⟩, ⟨zq25⟩, ⟨zq32⟩, ⟨zq33⟩, ⟨zq48⟩, ⟨zq47⟩⟩
     replace c127 := Bool.eq_false_iff.mpr c127
     subst c127
     have H1 : (laws_FnExactTake.j1 kj12 a1 a2 t239 true a0_0 l0_1 t231 t232 t235 t236 t237 t238 t247 t248) = some r := by rw [if_neg (show ¬ (false = true) by decide)] at H; exact H
     clear H
     have H := H1
     clear H1
     have H' := Aside0.mk H
     clear H
     have hnb170 := NB256_225.out
     have hnc170 := NB225_256.out
     have hnb171 := NB256_240.out
     have hnc171 := NB240_256.out
     have hnb172 := NB256_241.out
     have hnc172 := NB241_256.out
     have hnb173 := NB256_246.out
     have hnc173 := NB246_256.out
     have hnb174 := NB256_257.out
     have hnc174 := NB257_256.out
     obtain ⟨hcz175_0, hcz175_1, hfz175_0, hfz175_1⟩ := c2 (w := w124) BK256
     have hnb176 := NB240_225.out
     have hnc176 := NB225_240.out
     have hnb177 := NB240_241.out
     have hnc177 := NB241_240.out
     have hnb178 := NB240_246.out
     have hnc178 := NB246_240.out
     have hnb179 := NB240_257.out
     have hnc179 := NB257_240.out
     obtain ⟨hcz180_0, hcz180_1, hfz180_0, hfz180_1⟩ := c2 (w := w124) BK240
     go_wp2_with (first | (go_at_call 21; (with_reducible refine (laws_eqNet.calls kj12 t247 _ _ t248 t231 _ _ t232 false _ ?_ ?_ ?_ ?_ A126.out).mono ?_); exact zq69; exact zq70; exact zq71; exact zq72; rintro e w181 ⟨rfl, hb⟩; replace HO_241001 := rB zq53 hb; replace HO_247001 := rB zq54 hb; replace HO_257001 := rB zq55 hb; replace HO263 := rB zq58 hb; replace BK225 := bF BK225 zq14 hb; replace BK240 := bF BK240 zq18 hb; replace BK241 := bF BK241 zq25 hb; replace BK246 := bF BK246 zq32 hb; replace BK256 := bF BK256 zq33 hb; replace BK257 := bF BK257 zq48 hb; replace HB := sB zq47 hb; clear hb))
     go_meet
     case rel => exact ⟨_, (true), zq5, H', ⟨zq65⟩, ⟨zq66⟩, ⟨zq67⟩, ⟨zq68⟩, ⟨zq14⟩, ⟨zq18⟩, ⟨zq25⟩, ⟨zq32⟩, ⟨zq33⟩, ⟨zq48⟩, ⟨zq47⟩⟩
    case rest =>
     clear HC113
     try clear c1
     try clear c2
     try clear p2
     try clear c3
     try clear c4
     try clear c5
     try clear c5b0
     try clear c6
     try clear c7
     try clear c8
     try clear c9
     try clear c10
     try clear c11
     try clear c12
     try clear c13
     try clear c14
     try clear c15
     try clear c16
     try clear c17
     try clear c18
     try clear c19
     try clear c20
     try clear c21
     try clear c23
     try clear c24
     try clear c27
     try clear c32
     try clear c33
     try clear c34
     try clear c40
     try clear c41
     try clear c42
     try clear c43
     try clear c44
     try clear c47
     try clear c48
     try clear c49
     try clear c50
     try clear c53
     try clear c55
     try clear c56
     try clear c57
     try clear c58
     try clear c59
     try clear c60
     try clear c62
     try clear c63
     try clear c64
     try clear c65
     try clear c68
     try clear c69
     try clear c70
     try clear c72
     try clear c73
     try clear c76
     try clear c77
     try clear c78
     try clear c79
     try clear c80
     try clear c82
     try clear c83
     try clear c84
     try clear c85
     try clear c88
     try clear c89
     try clear c90
     try clear c92
     try clear c93
     try clear c96
     try clear c97
     try clear c98
     try clear c99
     try clear c100
     try clear c102
     try clear c103
     try clear c104
     try clear c105
     try clear c108
     try clear c111
     try clear c118
     try clear c119
     try clear c120
     try clear c121
     try clear c122
     try clear c125
     try clear c125b0
     try clear c127
     try clear c129
     try clear c130
     try clear c131
     try clear c132
     try clear c133
     try clear c134
     try clear c136
     try clear c137
     try clear c138
     try clear c139
     try clear c142
     try clear c143
     try clear c144
     try clear c146
     try clear c147
     try clear c150
     try clear c151
     try clear c152
     try clear c153
     try clear c154
     try clear c156
     try clear c157
     try clear c158
     try clear c159
     try clear c162
     try clear c163
     try clear c164
     try clear c166
     try clear c167
     try clear c170
     try clear c171
     try clear c172
     try clear c173
     try clear c174
     try clear c176
     try clear c177
     try clear c178
     try clear c179
     try clear hcz101_0
     try clear hcz101_1
     try clear hcz106_0
     try clear hcz106_1
     try clear hcz123_0
     try clear hcz123_1
     try clear hcz135_0
     try clear hcz135_1
     try clear hcz140_0
     try clear hcz140_1
     try clear hcz145_0
     try clear hcz145_1
     try clear hcz145_2
     try clear hcz145_3
     try clear hcz148_0
     try clear hcz148_1
     try clear hcz148_2
     try clear hcz148_3
     try clear hcz155_0
     try clear hcz155_1
     try clear hcz15_0
     try clear hcz15_1
     try clear hcz160_0
     try clear hcz160_1
     try clear hcz165_0
     try clear hcz165_1
     try clear hcz165_2
     try clear hcz165_3
     try clear hcz168_0
     try clear hcz168_1
     try clear hcz168_2
     try clear hcz168_3
     try clear hcz175_0
     try clear hcz175_1
     try clear hcz17_0
     try clear hcz17_1
     try clear hcz180_0
     try clear hcz180_1
     try clear hcz25_0
     try clear hcz25_1
     try clear hcz28_0
     try clear hcz28_1
     try clear hcz28_2
     try clear hcz28_3
     try clear hcz29_0
     try clear hcz29_1
     try clear hcz35_0
     try clear hcz35_1
     try clear hcz45_0
     try clear hcz45_1
     try clear hcz51_0
     try clear hcz51_1
     try clear hcz51_2
     try clear hcz51_3
     try clear hcz61_0
     try clear hcz61_1
     try clear hcz66_0
     try clear hcz66_1
     try clear hcz71_0
     try clear hcz71_1
     try clear hcz71_2
     try clear hcz71_3
     try clear hcz74_0
     try clear hcz74_1
     try clear hcz74_2
     try clear hcz74_3
     try clear hcz7_0
     try clear hcz7_1
     try clear hcz81_0
     try clear hcz81_1
     try clear hcz86_0
     try clear hcz86_1
     try clear hcz91_0
     try clear hcz91_1
     try clear hcz91_2
     try clear hcz91_3
     try clear hcz94_0
     try clear hcz94_1
     try clear hcz94_2
     try clear hcz94_3
     try clear hfz101_0
     try clear hfz101_1
     try clear hfz106_0
     try clear hfz106_1
     try clear hfz123_0
     try clear hfz123_1
     try clear hfz135_0
     try clear hfz135_1
     try clear hfz140_0
     try clear hfz140_1
     try clear hfz145_0
     try clear hfz145_1
     try clear hfz145_2
     try clear hfz145_3
     try clear hfz148_0
     try clear hfz148_1
     try clear hfz148_2
     try clear hfz148_3
     try clear hfz155_0
     try clear hfz155_1
     try clear hfz15_0
     try clear hfz15_1
     try clear hfz160_0
     try clear hfz160_1
     try clear hfz165_0
     try clear hfz165_1
     try clear hfz165_2
     try clear hfz165_3
     try clear hfz168_0
     try clear hfz168_1
     try clear hfz168_2
     try clear hfz168_3
     try clear hfz175_0
     try clear hfz175_1
     try clear hfz17_0
     try clear hfz17_1
     try clear hfz180_0
     try clear hfz180_1
     try clear hfz25_0
     try clear hfz25_1
     try clear hfz28_0
     try clear hfz28_1
     try clear hfz28_2
     try clear hfz28_3
     try clear hfz29_0
     try clear hfz29_1
     try clear hfz35_0
     try clear hfz35_1
     try clear hfz45_0
     try clear hfz45_1
     try clear hfz51_0
     try clear hfz51_1
     try clear hfz51_2
     try clear hfz51_3
     try clear hfz61_0
     try clear hfz61_1
     try clear hfz66_0
     try clear hfz66_1
     try clear hfz71_0
     try clear hfz71_1
     try clear hfz71_2
     try clear hfz71_3
     try clear hfz74_0
     try clear hfz74_1
     try clear hfz74_2
     try clear hfz74_3
     try clear hfz7_0
     try clear hfz7_1
     try clear hfz81_0
     try clear hfz81_1
     try clear hfz86_0
     try clear hfz86_1
     try clear hfz91_0
     try clear hfz91_1
     try clear hfz91_2
     try clear hfz91_3
     try clear hfz94_0
     try clear hfz94_1
     try clear hfz94_2
     try clear hfz94_3
     try clear p2
     obtain ⟨kq, x86_112, rfl, HA, HJ112, HO_241001, HO_247001, HO_257001, BK225, BK240, BK241, BK246, BK256, BK257, HB⟩ := hcut
     have hl247001_112 := (Kd.R_reads' HO_247001.out).1
     rw [hl247001_112] at HO_247001
     (try simp only [hl247001_112])
     (try simp only [hl247001_112] at BK225)
     (try simp only [hl247001_112] at BK240)
     (try simp only [hl247001_112] at BK241)
     (try simp only [hl247001_112] at BK246)
     (try simp only [hl247001_112] at BK256)
     (try simp only [hl247001_112] at BK257)
     (try simp only [hl247001_112] at HO_241001)
     (try simp only [hl247001_112] at HO_257001)
     cases kq with
     | zero => exact absurd HA.out (by simp [laws_FnExactTake.j1])
     | succ kj112 =>
      have H := HA.out
      clear HA
      simp only [laws_FnExactTake.j1] at H
      by_cases c182 : x86_112 = true
      ·
       subst c182
       have H1 : (some false) = some r := by rw [if_pos rfl] at H; exact H
       clear H
       have H := H1
       clear H1
       obtain rfl := Option.some.inj H
       go_wp2
       go_ret
       exact ⟨zq3, zq47⟩
      replace c182 := Bool.eq_false_iff.mpr c182
      subst c182
      have H1 : ((laws_markNet.f kj112 t247 t248 1).bind fun bt269 => ((laws_heldNet.f kj112 t247 bt269.2 1).bind fun t271 => (if t271 < 0 then (some false) else (if t271 = bt269.1 then ((laws_toNet.f kj112 a0_0 l0_1).bind fun bt272 => ((impl_Take.f kj112 bt272.1 bt272.2 a1 a2).bind fun bt276 => ((laws_eqNet.f kj112 bt276.1 bt276.2.1 t231 t232).bind fun t287 => (if t287 = true then ((laws_eqPacket.f bt276.2.2.1 bt276.2.2.2.1 bt276.2.2.2.2.1 bt276.2.2.2.2.2.1 t235 t236 t237 t238).bind fun t288 => (if t288 = true then (laws_FnExactTake.j2 kj112 bt269.1 (bt276.2.2.2.2.2.2 != t239) t247 bt269.2) else (laws_FnExactTake.j2 kj112 bt269.1 true t247 bt269.2))) else (laws_FnExactTake.j2 kj112 bt269.1 true t247 bt269.2))))) else (some false))))) = some r := by rw [if_neg (show ¬ (false = true) by decide)] at H; exact H
      clear H
      have H := H1
      clear H1
      replace H := Option.bind_eq_some_iff.mp H
      obtain ⟨⟨t269, t270⟩, A1830, H⟩ := H
      try dsimp only at H
      have A183 := Aside0.mk A1830
      clear A1830
      replace H := Option.bind_eq_some_iff.mp H
      obtain ⟨t271, A1840, H⟩ := H
      try dsimp only at H
      have A184 := Aside0.mk A1840
      clear A1840
      by_cases c185 : t271 < 0
      ·
       rw [if_pos c185] at H
       have c185b0 := decide_eq_true c185
       clear c185
       obtain rfl := Option.some.inj H
       have hnb186 := NB256_225.out
       have hnc186 := NB225_256.out
       have hnb187 := NB256_240.out
       have hnc187 := NB240_256.out
       have hnb188 := NB256_241.out
       have hnc188 := NB241_256.out
       have hnb189 := NB256_246.out
       have hnc189 := NB246_256.out
       have hnb190 := NB256_257.out
       have hnc190 := NB257_256.out
       obtain ⟨hcz191_0, hcz191_1, hfz191_0, hfz191_1⟩ := c2 (w := wc) BK256
       go_wp2_with (first | ((with_reducible refine gC 23 rfl ?_); refine gL 89 Try.func23 #[.agg #[.int .i64 t247, .slice Ao46 t248.length co46], .int .i64 1] ?_; (with_reducible refine (laws_markNet.calls kj112 t247 (fun k_ => some k_ = (.slice Ao46 t248.length co46 : Value).ownBlock) (.slice Ao46 t248.length co46) t248 1 t269 t270 w _ ?_ ?_ A183.out).mono ?_); exact zq47; exact zq73; rintro e w192 ⟨rfl, hy0, hb, hkp⟩; refine ⟨_, rfl, ?_⟩; replace HO_241001 := Aside0.mk (Kd.R_mono (ok' := fun k_ => some k_ ≠ (.slice Ao36 t266.length co36 : Value).ownBlock ∧ some k_ ≠ (.slice Ao46 t248.length co46 : Value).ownBlock ∧ k_ ≠ gb241 ∧ k_ ≠ gb257) (Kd.R_keptB (HO_241001.out) hkp (fun k_ hk_ hs_ => by first | exact (hk_.2.1) hs_ | simp_all)) (fun k_ hk_ => by first | exact ⟨hk_.1.1, hk_.1.2.1, hk_.1.2.2.1, hk_.1.2.2.2⟩ | simp_all)); replace HO_247001 := Aside0.mk (Kd.R_mono (ok' := fun k_ => some k_ ≠ (.slice Ao26 t232.length co26 : Value).ownBlock ∧ some k_ ≠ (.slice Ao46 t248.length co46 : Value).ownBlock ∧ k_ ≠ gb241 ∧ k_ ≠ gb257) (Kd.R_keptB (HO_247001.out) hkp (fun k_ hk_ hs_ => by first | exact (hk_.2.1) hs_ | simp_all)) (fun k_ hk_ => by first | exact ⟨hk_.1.1, hk_.1.2.1, hk_.1.2.2.1, hk_.1.2.2.2⟩ | simp_all)); replace BK225 := Aside0.mk (blk_kept zq59 hkp (fun hs_ => (fun e_ => (Kd.R_ne HO_257001.out BK225.out (by decide)) e_) hs_)); replace BK240 := Aside0.mk (blk_kept zq60 hkp (fun hs_ => (fun e_ => (Kd.R_ne HO_257001.out BK240.out (by decide)) e_) hs_)); replace BK241 := Aside0.mk (blk_kept zq61 hkp (fun hs_ => (fun e_ => (Kd.R_away HO_257001.out (fun _ hk => hk.2.2.1)) e_) hs_)); replace BK246 := Aside0.mk (blk_kept zq62 hkp (fun hs_ => (fun e_ => (Kd.R_ne HO_257001.out BK246.out (by decide)) e_) hs_)); replace BK256 := Aside0.mk (blk_kept zq63 hkp (fun hs_ => (fun e_ => (Kd.R_ne HO_257001.out BK256.out (by decide)) e_) hs_)); replace BK257 := Aside0.mk (blk_kept zq64 hkp (fun hs_ => (fun e_ => (Kd.R_away HO_257001.out (fun _ hk => hk.2.2.2)) e_) hs_)); replace HO_257001 := Aside0.mk (Kd.R_reok rfl hy0 (fun k_ e_ => HO_257001.out.1 k_ e_)); replace HB := Aside0.mk hb; clear hb; (try clear hkp); (try clear hy0); obtain ⟨hcz193_0, hcz193_1, hfz193_0, hfz193_1⟩ := c2 (w := w192) BK256) | ((with_reducible refine gC 24 rfl ?_); refine gL 92 Try.func24 #[.agg #[.int .i64 t247, .slice Ao46 t270.length co46], .int .i64 1] ?_ (hargs := by (try simp only [List.map_toArray, List.map_cons, List.map_nil]); first | done | (rw [show t270.length = t248.length from (Kd.R_reads' HO_257001.out).1.symm] <;> rfl) | rfl | (simp only [List.length_drop, List.length_take]; rfl)); (with_reducible refine (laws_heldNet.calls kj112 t247 _ _ t270 1 t271 _ ?_ ?_ A184.out).mono ?_); exact zq69; exact zq75; rintro e w194 ⟨rfl, hb⟩; refine ⟨_, rfl, ?_⟩; replace HO_241001 := rB zq53 hb; replace HO_247001 := rB zq54 hb; replace HO_257001 := rB zq55 hb; replace BK225 := bF BK225 zq14 hb; replace BK240 := bF BK240 zq18 hb; replace BK241 := bF BK241 zq25 hb; replace BK246 := bF BK246 zq32 hb; replace BK256 := bF BK256 zq33 hb; replace BK257 := bF BK257 zq48 hb; replace HB := sB zq47 hb; clear hb))
       go_ret
       exact ⟨zq3, zq47⟩
      rw [if_neg c185] at H
      have c185b0 := decide_eq_false c185
      clear c185
      by_cases c195 : t271 = t269
      ·
       rw [if_pos c195] at H
       have c195b0 : (t271 == t269) = true := beq_iff_eq.mpr c195
       have c195b1 : (t271 != t269) = false := bne_eq_false_iff_eq.mpr c195
       clear c195
       replace H := Option.bind_eq_some_iff.mp H
       obtain ⟨⟨t272, t273⟩, A1960, H⟩ := H
       try dsimp only at H
       have A196 := Aside0.mk A1960
       clear A1960
       replace H := Option.bind_eq_some_iff.mp H
       obtain ⟨⟨t276, t277, t280, t281, t282, t283, t284⟩, A1970, H⟩ := H
       try dsimp only at H
       have A197 := Aside0.mk A1970
       clear A1970
       have HC198 := Aside0.mk H
       clear H
       have hnb199 := NB256_225.out
       have hnc199 := NB225_256.out
       have hnb200 := NB256_240.out
       have hnc200 := NB240_256.out
       have hnb201 := NB256_241.out
       have hnc201 := NB241_256.out
       have hnb202 := NB256_246.out
       have hnc202 := NB246_256.out
       have hnb203 := NB256_257.out
       have hnc203 := NB257_256.out
       obtain ⟨hcz204_0, hcz204_1, hfz204_0, hfz204_1⟩ := c2 (w := wc) BK256
       go_upto_region 25 with (first | ((with_reducible refine gC 23 rfl ?_); refine gL 89 Try.func23 #[.agg #[.int .i64 t247, .slice Ao46 t248.length co46], .int .i64 1] ?_; (with_reducible refine (laws_markNet.calls kj112 t247 (fun k_ => some k_ = (.slice Ao46 t248.length co46 : Value).ownBlock) (.slice Ao46 t248.length co46) t248 1 t269 t270 w _ ?_ ?_ A183.out).mono ?_); exact zq47; exact zq73; rintro e w205 ⟨rfl, hy0, hb, hkp⟩; refine ⟨_, rfl, ?_⟩; replace HO_241001 := Aside0.mk (Kd.R_mono (ok' := fun k_ => some k_ ≠ (.slice Ao36 t266.length co36 : Value).ownBlock ∧ some k_ ≠ (.slice Ao46 t248.length co46 : Value).ownBlock ∧ k_ ≠ gb241 ∧ k_ ≠ gb257) (Kd.R_keptB (HO_241001.out) hkp (fun k_ hk_ hs_ => by first | exact (hk_.2.1) hs_ | simp_all)) (fun k_ hk_ => by first | exact ⟨hk_.1.1, hk_.1.2.1, hk_.1.2.2.1, hk_.1.2.2.2⟩ | simp_all)); replace HO_247001 := Aside0.mk (Kd.R_mono (ok' := fun k_ => some k_ ≠ (.slice Ao26 t232.length co26 : Value).ownBlock ∧ some k_ ≠ (.slice Ao46 t248.length co46 : Value).ownBlock ∧ k_ ≠ gb241 ∧ k_ ≠ gb257) (Kd.R_keptB (HO_247001.out) hkp (fun k_ hk_ hs_ => by first | exact (hk_.2.1) hs_ | simp_all)) (fun k_ hk_ => by first | exact ⟨hk_.1.1, hk_.1.2.1, hk_.1.2.2.1, hk_.1.2.2.2⟩ | simp_all)); replace BK225 := Aside0.mk (blk_kept zq59 hkp (fun hs_ => (fun e_ => (Kd.R_ne HO_257001.out BK225.out (by decide)) e_) hs_)); replace BK240 := Aside0.mk (blk_kept zq60 hkp (fun hs_ => (fun e_ => (Kd.R_ne HO_257001.out BK240.out (by decide)) e_) hs_)); replace BK241 := Aside0.mk (blk_kept zq61 hkp (fun hs_ => (fun e_ => (Kd.R_away HO_257001.out (fun _ hk => hk.2.2.1)) e_) hs_)); replace BK246 := Aside0.mk (blk_kept zq62 hkp (fun hs_ => (fun e_ => (Kd.R_ne HO_257001.out BK246.out (by decide)) e_) hs_)); replace BK256 := Aside0.mk (blk_kept zq63 hkp (fun hs_ => (fun e_ => (Kd.R_ne HO_257001.out BK256.out (by decide)) e_) hs_)); replace BK257 := Aside0.mk (blk_kept zq64 hkp (fun hs_ => (fun e_ => (Kd.R_away HO_257001.out (fun _ hk => hk.2.2.2)) e_) hs_)); replace HO_257001 := Aside0.mk (Kd.R_reok rfl hy0 (fun k_ e_ => HO_257001.out.1 k_ e_)); replace HB := Aside0.mk hb; clear hb; (try clear hkp); (try clear hy0); obtain ⟨hcz206_0, hcz206_1, hfz206_0, hfz206_1⟩ := c2 (w := w205) BK256) | ((with_reducible refine gC 24 rfl ?_); refine gL 92 Try.func24 #[.agg #[.int .i64 t247, .slice Ao46 t270.length co46], .int .i64 1] ?_ (hargs := by (try simp only [List.map_toArray, List.map_cons, List.map_nil]); first | done | (rw [show t270.length = t248.length from (Kd.R_reads' HO_257001.out).1.symm] <;> rfl) | rfl | (simp only [List.length_drop, List.length_take]; rfl)); (with_reducible refine (laws_heldNet.calls kj112 t247 _ _ t270 1 t271 _ ?_ ?_ A184.out).mono ?_); exact zq69; exact zq75; rintro e w207 ⟨rfl, hb⟩; refine ⟨_, rfl, ?_⟩; replace HO_241001 := rB zq53 hb; replace HO_247001 := rB zq54 hb; replace HO_257001 := rB zq55 hb; replace BK225 := bF BK225 zq14 hb; replace BK240 := bF BK240 zq18 hb; replace BK241 := bF BK241 zq25 hb; replace BK246 := bF BK246 zq32 hb; replace BK256 := bF BK256 zq33 hb; replace BK257 := bF BK257 zq48 hb; replace HB := sB zq47 hb; clear hb; have hnb208 := NB225_240.out; have hnc208 := NB240_225.out; have hnb209 := NB225_241.out; have hnc209 := NB241_225.out; have hnb210 := NB225_246.out; have hnc210 := NB246_225.out; have hnb211 := NB225_257.out; have hnc211 := NB257_225.out; obtain ⟨hcz212_0, hcz212_1, hfz212_0, hfz212_1⟩ := c2 (w := w207) BK225) | ((with_reducible refine gC 19 rfl ?_); refine gL 100 Try.func19 #[.agg #[.int .i64 a0_0, .slice A0_1 l0_1.length c0_1]] ?_; (with_reducible refine (laws_toNet.calls kj112 a0_0 _ _ l0_1 t272 t273 _ ?_ ?_ A196.out).mono ?_); exact zq9; exact zq10; rintro e w213 ⟨v274, rfl, ho0, hb⟩; refine ⟨_, rfl, ?_⟩; have HO275 := Aside0.mk (Kd.R_lower (Kd.R_newB (Kd.R_newB (Kd.R_new' (Kd.R_new' (Kd.R_new' ho0 (Kd.R_lt zq53)) (Kd.R_lt zq54)) (Kd.R_lt zq55)) (g := gb241) (o := .cells #[.int .i64 t235, .int .i64 t236, .int .i64 t237, .string t238] 39 (0, 0)) zq25) (g := gb257) (o := .cells #[.int .i64 t251, .int .i64 t252, .int .i64 t253, .string t254] 39 (0, 0)) zq48) (below_size zq47)); replace HO_241001 := Aside0.mk (Kd.R_elder' zq53 (Kd.R_base ho0) hb); replace HO_247001 := Aside0.mk (Kd.R_elder' zq54 (Kd.R_base ho0) hb); replace HO_257001 := Aside0.mk (Kd.R_elder' zq55 (Kd.R_base ho0) hb); replace BK225 := bF BK225 zq14 hb; replace BK240 := bF BK240 zq18 hb; replace BK241 := bF BK241 zq25 hb; replace BK246 := bF BK246 zq32 hb; replace BK256 := bF BK256 zq33 hb; replace BK257 := bF BK257 zq48 hb; replace HB := sB zq47 hb; clear hb; (try clear ho0); obtain ⟨Ao214, co214, eo214⟩ := Kd.R_slice HO275.out; subst eo214) | ((with_reducible refine gC 20 rfl ?_); refine gL 103 Try.func20 #[.agg #[.int .i64 t272, .slice Ao214 t273.length co214], .int .i64 a1, .bool a2] ?_; (with_reducible refine (impl_Take.calls kj112 t272 _ _ t273 a1 a2 t276 t277 t280 t281 t282 t283 t284 _ ?side1 ?_ A197.out).mono ?_); (case side1 => repeat (first | exact (Kd.R_reads' HO275.out).2.2 | (with_reducible refine Kd.C_alloc ?_ _) | (with_reducible refine Kd.C_drewN ?_ _) | (with_reducible refine Kd.C_drew ?_))); exact (Kd.R_reads' HO275.out).2.1; rintro e w215 ⟨v278, rfl, ho0, hb⟩; refine ⟨_, rfl, ?_⟩; have HO279 := Aside0.mk (Kd.R_lower (Kd.R_newB (Kd.R_newB (Kd.R_new' (Kd.R_new' (Kd.R_new' (Kd.R_new' ho0 (Kd.R_lt zq53)) (Kd.R_lt zq54)) (Kd.R_lt zq55)) (Kd.R_lt zq76)) (g := gb241) (o := .cells #[.int .i64 t235, .int .i64 t236, .int .i64 t237, .string t238] 39 (0, 0)) zq25) (g := gb257) (o := .cells #[.int .i64 t251, .int .i64 t252, .int .i64 t253, .string t254] 39 (0, 0)) zq48) (below_size zq47)); replace HO_241001 := Aside0.mk (Kd.R_elder' zq53 (Kd.R_base ho0) hb); replace HO_247001 := Aside0.mk (Kd.R_elder' zq54 (Kd.R_base ho0) hb); replace HO_257001 := Aside0.mk (Kd.R_elder' zq55 (Kd.R_base ho0) hb); replace HO275 := Aside0.mk (Kd.R_elder' zq76 (Kd.R_base ho0) hb); replace BK225 := bF BK225 zq14 hb; replace BK240 := bF BK240 zq18 hb; replace BK241 := bF BK241 zq25 hb; replace BK246 := bF BK246 zq32 hb; replace BK256 := bF BK256 zq33 hb; replace BK257 := bF BK257 zq48 hb; replace HB := sB zq47 hb; clear hb; (try clear ho0)) | ((with_reducible refine gate_dst (N := 18) rfl ?_); refine box_event ?hg (N := 18) ?hd (cs := #[.int .i64 0, .slice none 0 0]) (t := 37) ?hr ?_; (case hd => rfl); (case hg => rfl); (case hr => exact zq1); intro gb285 hg w216 hbox hb; replace HO_241001 := rB zq53 hb; replace HO_247001 := rB zq54 hb; replace HO_257001 := rB zq55 hb; replace HO275 := rB zq76 hb; replace HO279 := rB zq77 hb; have BK285 := Aside0.mk hbox; have GW285 := Aside0.mk (by rw [hg]; exact (below_size zq47) : w.heap.size ≤ gb285); have GE285 := Aside0.mk (by rw [hg]; exact (below_size zq47) : w.heap.size ≤ gb285); replace HB := sB zq47 hb; have NB225_285 := Aside0.mk (zq206 : gb225 ≠ gb285); have NB285_225 := Aside0.mk (zq207 : gb285 ≠ gb225); replace BK225 := bF BK225 zq14 hb; have NB240_285 := Aside0.mk (zq208 : gb240 ≠ gb285); have NB285_240 := Aside0.mk (zq209 : gb285 ≠ gb240); replace BK240 := bF BK240 zq18 hb; have NB241_285 := Aside0.mk (zq210 : gb241 ≠ gb285); have NB285_241 := Aside0.mk (zq211 : gb285 ≠ gb241); replace BK241 := bF BK241 zq25 hb; have NB246_285 := Aside0.mk (zq216 : gb246 ≠ gb285); have NB285_246 := Aside0.mk (zq217 : gb285 ≠ gb246); replace BK246 := bF BK246 zq32 hb; have NB256_285 := Aside0.mk (zq218 : gb256 ≠ gb285); have NB285_256 := Aside0.mk (zq219 : gb285 ≠ gb256); replace BK256 := bF BK256 zq33 hb; have NB257_285 := Aside0.mk (zq220 : gb257 ≠ gb285); have NB285_257 := Aside0.mk (zq221 : gb285 ≠ gb257); replace BK257 := bF BK257 zq48 hb; clear hb hbox hg) | ((with_reducible refine gate_dst (N := 19) rfl ?_); refine box_event ?hg (N := 19) ?hd (cs := #[.int .i64 0, .int .i64 0, .int .i64 0, .string (⟨#[]⟩ : ByteArray)]) (t := 39) ?hr ?_; (case hd => rfl); (case hg => rfl); (case hr => exact zq1); intro gb286 hg w217 hbox hb; replace HO_241001 := Aside0.mk (Kd.R_below (Kd.R_elderB zq53 gb286 (Nat.le_of_eq hg.symm)) hb); replace HO_247001 := Aside0.mk (Kd.R_below (Kd.R_elderB zq54 gb286 (Nat.le_of_eq hg.symm)) hb); replace HO_257001 := Aside0.mk (Kd.R_below (Kd.R_elderB zq55 gb286 (Nat.le_of_eq hg.symm)) hb); replace HO275 := Aside0.mk (Kd.R_below (Kd.R_elderB zq76 gb286 (Nat.le_of_eq hg.symm)) hb); replace HO279 := Aside0.mk (Kd.R_below (Kd.R_elderB zq77 gb286 (Nat.le_of_eq hg.symm)) hb); have BK286 := Aside0.mk hbox; have GW286 := Aside0.mk (by rw [hg]; exact (below_size zq79) : w.heap.size ≤ gb286); have GE286 := Aside0.mk (by rw [hg]; exact (below_size zq79) : w.heap.size ≤ gb286); replace HB := sB zq79 hb; have NB225_286 := Aside0.mk (zq206 : gb225 ≠ gb286); have NB286_225 := Aside0.mk (zq207 : gb286 ≠ gb225); replace BK225 := bF BK225 zq14 hb; have NB240_286 := Aside0.mk (zq208 : gb240 ≠ gb286); have NB286_240 := Aside0.mk (zq209 : gb286 ≠ gb240); replace BK240 := bF BK240 zq18 hb; have NB241_286 := Aside0.mk (zq210 : gb241 ≠ gb286); have NB286_241 := Aside0.mk (zq211 : gb286 ≠ gb241); replace BK241 := bF BK241 zq25 hb; have NB246_286 := Aside0.mk (zq216 : gb246 ≠ gb286); have NB286_246 := Aside0.mk (zq217 : gb286 ≠ gb246); replace BK246 := bF BK246 zq32 hb; have NB256_286 := Aside0.mk (zq218 : gb256 ≠ gb286); have NB286_256 := Aside0.mk (zq219 : gb286 ≠ gb256); replace BK256 := bF BK256 zq33 hb; have NB257_286 := Aside0.mk (zq220 : gb257 ≠ gb286); have NB286_257 := Aside0.mk (zq221 : gb286 ≠ gb257); replace BK257 := bF BK257 zq48 hb; have NB285_286 := Aside0.mk (by rw [hg]; exact Nat.ne_of_lt (blk_lt (g := gb285) (o := .cells #[.int .i64 0, .slice none 0 0] 37 (0, 0)) zq78) : gb285 ≠ gb286); have NB286_285 := Aside0.mk (by rw [hg]; exact Nat.ne_of_gt (blk_lt (g := gb285) (o := .cells #[.int .i64 0, .slice none 0 0] 37 (0, 0)) zq78) : gb286 ≠ gb285); replace BK285 := bF BK285 zq78 hb; clear hb hbox hg; have hnb218 := NB285_225.out; have hnc218 := NB225_285.out; have hnb219 := NB285_240.out; have hnc219 := NB240_285.out; have hnb220 := NB285_241.out; have hnc220 := NB241_285.out; have hnb221 := NB285_246.out; have hnc221 := NB246_285.out; have hnb222 := NB285_256.out; have hnc222 := NB256_285.out; have hnb223 := NB285_257.out; have hnc223 := NB257_285.out; have hnb224 := NB285_286.out; have hnc224 := NB286_285.out; obtain ⟨hcz225_0, hcz225_1, hfz225_0, hfz225_1⟩ := c2 (w := w217) BK285; obtain ⟨Ao226, co226, eo226⟩ := Kd.R_slice HO279.out; subst eo226; have hnb227 := NB286_225.out; have hnc227 := NB225_286.out; have hnb228 := NB286_240.out; have hnc228 := NB240_286.out; have hnb229 := NB286_241.out; have hnc229 := NB241_286.out; have hnb230 := NB286_246.out; have hnc230 := NB246_286.out; have hnb231 := NB286_256.out; have hnc231 := NB256_286.out; have hnb232 := NB286_257.out; have hnc232 := NB257_286.out; obtain ⟨hcz233_0, hcz233_1, hcz233_2, hcz233_3, hfz233_0, hfz233_1, hfz233_2, hfz233_3⟩ := c4 (w := w217) BK286))
       (try simp only [Act.put, List.setIfInBounds_toArray, List.set_cons_zero, List.set_cons_succ])
       go_cut [121] (fun v121 wc => ∃ (kq : Nat) (x121_197 : Bool), v121 = .bool x121_197 ∧ Aside0 (laws_FnExactTake.j2 kq t269 x121_197 t247 t270 = some r) ∧ Aside0 (kq ≤ kj112) ∧ Aside0 (Kd.R k39 39 wc w.heap.size (fun k_ => some k_ ≠ ((.slice Ao36 t266.length co36) : Value).ownBlock ∧ some k_ ≠ ((.slice Ao46 t248.length co46) : Value).ownBlock ∧ some k_ ≠ ((.slice Ao226 t277.length co226) : Value).ownBlock ∧ k_ ≠ gb241 ∧ k_ ≠ gb257 ∧ k_ ≠ gb286) (.slice Ao26 t232.length co26) t232) ∧ Aside0 (Kd.R k39 39 wc w.heap.size (fun k_ => some k_ ≠ ((.slice Ao26 t232.length co26) : Value).ownBlock ∧ some k_ ≠ ((.slice Ao46 t248.length co46) : Value).ownBlock ∧ some k_ ≠ ((.slice Ao226 t277.length co226) : Value).ownBlock ∧ k_ ≠ gb241 ∧ k_ ≠ gb257 ∧ k_ ≠ gb286) (.slice Ao36 t266.length co36) t266) ∧ Aside0 (Kd.R k39 39 wc w.heap.size (fun k_ => some k_ ≠ ((.slice Ao26 t232.length co26) : Value).ownBlock ∧ some k_ ≠ ((.slice Ao36 t266.length co36) : Value).ownBlock ∧ some k_ ≠ ((.slice Ao226 t277.length co226) : Value).ownBlock ∧ k_ ≠ gb241 ∧ k_ ≠ gb257 ∧ k_ ≠ gb286) (.slice Ao46 t248.length co46) t270) ∧ Aside0 (Kd.R k39 39 wc w.heap.size (fun k_ => some k_ ≠ ((.slice Ao26 t232.length co26) : Value).ownBlock ∧ some k_ ≠ ((.slice Ao36 t266.length co36) : Value).ownBlock ∧ some k_ ≠ ((.slice Ao46 t248.length co46) : Value).ownBlock ∧ k_ ≠ gb241 ∧ k_ ≠ gb257 ∧ k_ ≠ gb286) (.slice Ao226 t277.length co226) t277) ∧ Aside0 (wc.heap[gb225]? = some (.cells #[.int .i64 a0_0, (.slice A0_1 l0_1.length c0_1)] 33 (0, 0))) ∧ Aside0 (wc.heap[gb240]? = some (.cells #[.int .i64 t231, (.slice Ao26 t232.length co26)] 37 (0, 0))) ∧ Aside0 (wc.heap[gb241]? = some (.cells #[.int .i64 t235, .int .i64 t236, .int .i64 t237, .string t238] 39 (0, 0))) ∧ Aside0 (wc.heap[gb246]? = some (.cells #[.int .i64 t242, (.slice Ao36 t266.length co36)] 37 (0, 0))) ∧ Aside0 (wc.heap[gb256]? = some (.cells #[.int .i64 t247, (.slice Ao46 t248.length co46)] 37 (0, 0))) ∧ Aside0 (wc.heap[gb257]? = some (.cells #[.int .i64 t251, .int .i64 t252, .int .i64 t253, .string t254] 39 (0, 0))) ∧ Aside0 (wc.heap[gb285]? = some (.cells #[.int .i64 t276, (.slice Ao226 t277.length co226)] 37 (0, 0))) ∧ Aside0 (wc.heap[gb286]? = some (.cells #[.int .i64 t280, .int .i64 t281, .int .i64 t282, .string t283] 39 (0, 0))) ∧ Aside0 (Below w.heap.size w wc))
       case first =>
        have H := HC198.out
        clear HC198
        replace H := Option.bind_eq_some_iff.mp H
        obtain ⟨t287, A2340, H⟩ := H
        try dsimp only at H
        have A234 := Aside0.mk A2340
        clear A2340
        by_cases c235 : t287 = true
        ·
         subst c235
         have H1 : ((laws_eqPacket.f t280 t281 t282 t283 t235 t236 t237 t238).bind fun t288 => (if t288 = true then (laws_FnExactTake.j2 kj112 t269 (t284 != t239) t247 t270) else (laws_FnExactTake.j2 kj112 t269 true t247 t270))) = some r := by rw [if_pos rfl] at H; exact H
         clear H
         have H := H1
         clear H1
         replace H := Option.bind_eq_some_iff.mp H
         obtain ⟨t288, A2360, H⟩ := H
         try dsimp only at H
         have A236 := Aside0.mk A2360
         clear A2360
         by_cases c237 : t288 = true
         ·
          subst c237
          have H1 : (laws_FnExactTake.j2 kj112 t269 (t284 != t239) t247 t270) = some r := by rw [if_pos rfl] at H; exact H
          clear H
          have H := H1
          clear H1
          have H' := Aside0.mk H
          clear H
          have hnb238 := NB285_225.out
          have hnc238 := NB225_285.out
          have hnb239 := NB285_240.out
          have hnc239 := NB240_285.out
          have hnb240 := NB285_241.out
          have hnc240 := NB241_285.out
          have hnb241 := NB285_246.out
          have hnc241 := NB246_285.out
          have hnb242 := NB285_256.out
          have hnc242 := NB256_285.out
          have hnb243 := NB285_257.out
          have hnc243 := NB257_285.out
          have hnb244 := NB285_286.out
          have hnc244 := NB286_285.out
          obtain ⟨hcz245_0, hcz245_1, hfz245_0, hfz245_1⟩ := c2 (w := w217) BK285
          have hnb246 := NB240_225.out
          have hnc246 := NB225_240.out
          have hnb247 := NB240_241.out
          have hnc247 := NB241_240.out
          have hnb248 := NB240_246.out
          have hnc248 := NB246_240.out
          have hnb249 := NB240_256.out
          have hnc249 := NB256_240.out
          have hnb250 := NB240_257.out
          have hnc250 := NB257_240.out
          have hnb251 := NB240_286.out
          have hnc251 := NB286_240.out
          obtain ⟨hcz252_0, hcz252_1, hfz252_0, hfz252_1⟩ := c2 (w := w217) BK240
          go_wp2_with (first | ((with_reducible refine gC 21 rfl ?_); refine gL 109 Try.func21 #[.agg #[.int .i64 t276, .slice Ao226 t277.length co226], .agg #[.int .i64 t231, .slice Ao26 t232.length co26]] ?_; (with_reducible refine (laws_eqNet.calls kj112 t276 _ _ t277 t231 _ _ t232 true _ ?_ ?_ ?_ ?_ A234.out).mono ?_); exact zq222; exact zq81; exact zq223; exact zq72; rintro e w253 ⟨rfl, hb⟩; refine ⟨_, rfl, ?_⟩; replace HO_241001 := rB zq82 hb; replace HO_247001 := rB zq83 hb; replace HO_257001 := rB zq84 hb; replace HO275 := rB zq85 hb; replace HO279 := rB zq80 hb; replace BK225 := bF BK225 zq86 hb; replace BK240 := bF BK240 zq87 hb; replace BK241 := bF BK241 zq88 hb; replace BK246 := bF BK246 zq89 hb; replace BK256 := bF BK256 zq90 hb; replace BK257 := bF BK257 zq91 hb; replace BK285 := bB (g := gb285) (o := .cells #[.int .i64 t276, .slice Ao226 t277.length co226] 37 (0, 0)) zq92 hb; replace BK286 := bB (g := gb286) (o := .cells #[.int .i64 t280, .int .i64 t281, .int .i64 t282, .string t283] 39 (0, 0)) zq93 hb; replace HB := sB zq94 hb; clear hb; have hnb254 := NB286_225.out; have hnc254 := NB225_286.out; have hnb255 := NB286_241.out; have hnc255 := NB241_286.out; have hnb256 := NB286_246.out; have hnc256 := NB246_286.out; have hnb257 := NB286_256.out; have hnc257 := NB256_286.out; have hnb258 := NB286_257.out; have hnc258 := NB257_286.out; obtain ⟨hcz259_0, hcz259_1, hcz259_2, hcz259_3, hfz259_0, hfz259_1, hfz259_2, hfz259_3⟩ := c4 (w := w253) BK286; have hnb260 := NB241_225.out; have hnc260 := NB225_241.out; have hnb261 := NB241_246.out; have hnc261 := NB246_241.out; have hnb262 := NB241_256.out; have hnc262 := NB256_241.out; have hnb263 := NB241_257.out; have hnc263 := NB257_241.out; obtain ⟨hcz264_0, hcz264_1, hcz264_2, hcz264_3, hfz264_0, hfz264_1, hfz264_2, hfz264_3⟩ := c4 (w := w253) BK241) | (go_at_call 22; (with_reducible refine (laws_eqPacket.calls t280 t281 t282 t283 t235 t236 t237 t238 true _ A236.out).mono ?_); rintro e w265 ⟨rfl, hb⟩; replace HO_241001 := rB zq53 hb; replace HO_247001 := rB zq54 hb; replace HO_257001 := rB zq55 hb; replace HO275 := rB zq76 hb; replace HO279 := rB zq77 hb; replace BK225 := bF BK225 zq14 hb; replace BK240 := bF BK240 zq18 hb; replace BK241 := bF BK241 zq25 hb; replace BK246 := bF BK246 zq32 hb; replace BK256 := bF BK256 zq33 hb; replace BK257 := bF BK257 zq48 hb; replace BK285 := bF BK285 zq78 hb; replace BK286 := bF BK286 zq95 hb; replace HB := sB zq94 hb; clear hb))
          go_meet
          case rel => exact ⟨_, ((t284 != t239)), zq5, H', ⟨zq96⟩, ⟨zq97⟩, ⟨zq98⟩, ⟨zq99⟩, ⟨zq100⟩, ⟨zq101⟩, ⟨zq102⟩, ⟨zq103⟩, ⟨zq104⟩, ⟨zq105⟩, ⟨zq106⟩, ⟨zq107⟩, ⟨zq108⟩, ⟨zq94⟩⟩
         replace c237 := Bool.eq_false_iff.mpr c237
         subst c237
         have H1 : (laws_FnExactTake.j2 kj112 t269 true t247 t270) = some r := by rw [if_neg (show ¬ (false = true) by decide)] at H; exact H
         clear H
         have H := H1
         clear H1
         have H' := Aside0.mk H
         clear H
         have hnb266 := NB285_225.out
         have hnc266 := NB225_285.out
         have hnb267 := NB285_240.out
         have hnc267 := NB240_285.out
         have hnb268 := NB285_241.out
         have hnc268 := NB241_285.out
         have hnb269 := NB285_246.out
         have hnc269 := NB246_285.out
         have hnb270 := NB285_256.out
         have hnc270 := NB256_285.out
         have hnb271 := NB285_257.out
         have hnc271 := NB257_285.out
         have hnb272 := NB285_286.out
         have hnc272 := NB286_285.out
         obtain ⟨hcz273_0, hcz273_1, hfz273_0, hfz273_1⟩ := c2 (w := w217) BK285
         have hnb274 := NB240_225.out
         have hnc274 := NB225_240.out
         have hnb275 := NB240_241.out
         have hnc275 := NB241_240.out
         have hnb276 := NB240_246.out
         have hnc276 := NB246_240.out
         have hnb277 := NB240_256.out
         have hnc277 := NB256_240.out
         have hnb278 := NB240_257.out
         have hnc278 := NB257_240.out
         have hnb279 := NB240_286.out
         have hnc279 := NB286_240.out
         obtain ⟨hcz280_0, hcz280_1, hfz280_0, hfz280_1⟩ := c2 (w := w217) BK240
         go_wp2_with (first | ((with_reducible refine gC 21 rfl ?_); refine gL 109 Try.func21 #[.agg #[.int .i64 t276, .slice Ao226 t277.length co226], .agg #[.int .i64 t231, .slice Ao26 t232.length co26]] ?_; (with_reducible refine (laws_eqNet.calls kj112 t276 _ _ t277 t231 _ _ t232 true _ ?_ ?_ ?_ ?_ A234.out).mono ?_); exact zq222; exact zq81; exact zq223; exact zq72; rintro e w281 ⟨rfl, hb⟩; refine ⟨_, rfl, ?_⟩; replace HO_241001 := rB zq82 hb; replace HO_247001 := rB zq83 hb; replace HO_257001 := rB zq84 hb; replace HO275 := rB zq85 hb; replace HO279 := rB zq80 hb; replace BK225 := bF BK225 zq86 hb; replace BK240 := bF BK240 zq87 hb; replace BK241 := bF BK241 zq88 hb; replace BK246 := bF BK246 zq89 hb; replace BK256 := bF BK256 zq90 hb; replace BK257 := bF BK257 zq91 hb; replace BK285 := bB (g := gb285) (o := .cells #[.int .i64 t276, .slice Ao226 t277.length co226] 37 (0, 0)) zq92 hb; replace BK286 := bB (g := gb286) (o := .cells #[.int .i64 t280, .int .i64 t281, .int .i64 t282, .string t283] 39 (0, 0)) zq93 hb; replace HB := sB zq94 hb; clear hb; have hnb282 := NB286_225.out; have hnc282 := NB225_286.out; have hnb283 := NB286_241.out; have hnc283 := NB241_286.out; have hnb284 := NB286_246.out; have hnc284 := NB246_286.out; have hnb285 := NB286_256.out; have hnc285 := NB256_286.out; have hnb286 := NB286_257.out; have hnc286 := NB257_286.out; obtain ⟨hcz287_0, hcz287_1, hcz287_2, hcz287_3, hfz287_0, hfz287_1, hfz287_2, hfz287_3⟩ := c4 (w := w281) BK286; have hnb288 := NB241_225.out; have hnc288 := NB225_241.out; have hnb289 := NB241_246.out; have hnc289 := NB246_241.out; have hnb290 := NB241_256.out; have hnc290 := NB256_241.out; have hnb291 := NB241_257.out; have hnc291 := NB257_241.out; obtain ⟨hcz292_0, hcz292_1, hcz292_2, hcz292_3, hfz292_0, hfz292_1, hfz292_2, hfz292_3⟩ := c4 (w := w281) BK241) | (go_at_call 22; (with_reducible refine (laws_eqPacket.calls t280 t281 t282 t283 t235 t236 t237 t238 false _ A236.out).mono ?_); rintro e w293 ⟨rfl, hb⟩; replace HO_241001 := rB zq53 hb; replace HO_247001 := rB zq54 hb; replace HO_257001 := rB zq55 hb; replace HO275 := rB zq76 hb; replace HO279 := rB zq77 hb; replace BK225 := bF BK225 zq14 hb; replace BK240 := bF BK240 zq18 hb; replace BK241 := bF BK241 zq25 hb; replace BK246 := bF BK246 zq32 hb; replace BK256 := bF BK256 zq33 hb; replace BK257 := bF BK257 zq48 hb; replace BK285 := bF BK285 zq78 hb; replace BK286 := bF BK286 zq95 hb; replace HB := sB zq94 hb; clear hb))
         go_meet
         case rel => exact ⟨_, (true), zq5, H', ⟨zq96⟩, ⟨zq97⟩, ⟨zq98⟩, ⟨zq99⟩, ⟨zq100⟩, ⟨zq101⟩, ⟨zq102⟩, ⟨zq103⟩, ⟨zq104⟩, ⟨zq105⟩, ⟨zq106⟩, ⟨zq107⟩, ⟨zq108⟩, ⟨zq94⟩⟩
        replace c235 := Bool.eq_false_iff.mpr c235
        subst c235
        have H1 : (laws_FnExactTake.j2 kj112 t269 true t247 t270) = some r := by rw [if_neg (show ¬ (false = true) by decide)] at H; exact H
        clear H
        have H := H1
        clear H1
        have H' := Aside0.mk H
        clear H
        have hnb294 := NB285_225.out
        have hnc294 := NB225_285.out
        have hnb295 := NB285_240.out
        have hnc295 := NB240_285.out
        have hnb296 := NB285_241.out
        have hnc296 := NB241_285.out
        have hnb297 := NB285_246.out
        have hnc297 := NB246_285.out
        have hnb298 := NB285_256.out
        have hnc298 := NB256_285.out
        have hnb299 := NB285_257.out
        have hnc299 := NB257_285.out
        have hnb300 := NB285_286.out
        have hnc300 := NB286_285.out
        obtain ⟨hcz301_0, hcz301_1, hfz301_0, hfz301_1⟩ := c2 (w := w217) BK285
        have hnb302 := NB240_225.out
        have hnc302 := NB225_240.out
        have hnb303 := NB240_241.out
        have hnc303 := NB241_240.out
        have hnb304 := NB240_246.out
        have hnc304 := NB246_240.out
        have hnb305 := NB240_256.out
        have hnc305 := NB256_240.out
        have hnb306 := NB240_257.out
        have hnc306 := NB257_240.out
        have hnb307 := NB240_286.out
        have hnc307 := NB286_240.out
        obtain ⟨hcz308_0, hcz308_1, hfz308_0, hfz308_1⟩ := c2 (w := w217) BK240
        go_wp2_with (first | ((with_reducible refine gC 21 rfl ?_); refine gL 109 Try.func21 #[.agg #[.int .i64 t276, .slice Ao226 t277.length co226], .agg #[.int .i64 t231, .slice Ao26 t232.length co26]] ?_; (with_reducible refine (laws_eqNet.calls kj112 t276 _ _ t277 t231 _ _ t232 false _ ?_ ?_ ?_ ?_ A234.out).mono ?_); exact zq222; exact zq81; exact zq223; exact zq72; rintro e w309 ⟨rfl, hb⟩; refine ⟨_, rfl, ?_⟩; replace HO_241001 := rB zq82 hb; replace HO_247001 := rB zq83 hb; replace HO_257001 := rB zq84 hb; replace HO275 := rB zq85 hb; replace HO279 := rB zq80 hb; replace BK225 := bF BK225 zq86 hb; replace BK240 := bF BK240 zq87 hb; replace BK241 := bF BK241 zq88 hb; replace BK246 := bF BK246 zq89 hb; replace BK256 := bF BK256 zq90 hb; replace BK257 := bF BK257 zq91 hb; replace BK285 := bB (g := gb285) (o := .cells #[.int .i64 t276, .slice Ao226 t277.length co226] 37 (0, 0)) zq92 hb; replace BK286 := bB (g := gb286) (o := .cells #[.int .i64 t280, .int .i64 t281, .int .i64 t282, .string t283] 39 (0, 0)) zq93 hb; replace HB := sB zq94 hb; clear hb))
        go_meet
        case rel => exact ⟨_, (true), zq5, H', ⟨zq96⟩, ⟨zq97⟩, ⟨zq98⟩, ⟨zq99⟩, ⟨zq100⟩, ⟨zq101⟩, ⟨zq102⟩, ⟨zq103⟩, ⟨zq104⟩, ⟨zq105⟩, ⟨zq106⟩, ⟨zq107⟩, ⟨zq108⟩, ⟨zq94⟩⟩
       case rest =>
        clear HC198
        try clear c1
        try clear c2
        try clear p2
        try clear c3
        try clear c4
        try clear c5
        try clear c5b0
        try clear c6
        try clear c7
        try clear c8
        try clear c9
        try clear c10
        try clear c11
        try clear c12
        try clear c13
        try clear c14
        try clear c15
        try clear c16
        try clear c17
        try clear c18
        try clear c19
        try clear c20
        try clear c21
        try clear c22
        try clear c23
        try clear c24
        try clear c25
        try clear c26
        try clear c27
        try clear c28
        try clear c29
        try clear c30
        try clear c32
        try clear c33
        try clear c34
        try clear c40
        try clear c41
        try clear c42
        try clear c43
        try clear c44
        try clear c47
        try clear c48
        try clear c49
        try clear c50
        try clear c53
        try clear c55
        try clear c56
        try clear c57
        try clear c58
        try clear c59
        try clear c60
        try clear c62
        try clear c63
        try clear c64
        try clear c65
        try clear c68
        try clear c69
        try clear c70
        try clear c72
        try clear c73
        try clear c76
        try clear c77
        try clear c78
        try clear c79
        try clear c80
        try clear c82
        try clear c83
        try clear c84
        try clear c85
        try clear c88
        try clear c89
        try clear c90
        try clear c92
        try clear c93
        try clear c96
        try clear c97
        try clear c98
        try clear c99
        try clear c100
        try clear c102
        try clear c103
        try clear c104
        try clear c105
        try clear c108
        try clear c111
        try clear c118
        try clear c119
        try clear c120
        try clear c121
        try clear c122
        try clear c125
        try clear c125b0
        try clear c127
        try clear c129
        try clear c130
        try clear c131
        try clear c132
        try clear c133
        try clear c134
        try clear c136
        try clear c137
        try clear c138
        try clear c139
        try clear c142
        try clear c143
        try clear c144
        try clear c146
        try clear c147
        try clear c150
        try clear c151
        try clear c152
        try clear c153
        try clear c154
        try clear c156
        try clear c157
        try clear c158
        try clear c159
        try clear c162
        try clear c163
        try clear c164
        try clear c166
        try clear c167
        try clear c170
        try clear c171
        try clear c172
        try clear c173
        try clear c174
        try clear c176
        try clear c177
        try clear c178
        try clear c179
        try clear c182
        try clear c185
        try clear c185b0
        try clear c186
        try clear c187
        try clear c188
        try clear c189
        try clear c190
        try clear c195
        try clear c195b0
        try clear c195b1
        try clear c199
        try clear c200
        try clear c201
        try clear c202
        try clear c203
        try clear c208
        try clear c209
        try clear c210
        try clear c211
        try clear c218
        try clear c219
        try clear c220
        try clear c221
        try clear c222
        try clear c223
        try clear c224
        try clear c227
        try clear c228
        try clear c229
        try clear c230
        try clear c231
        try clear c232
        try clear c235
        try clear c237
        try clear c238
        try clear c239
        try clear c240
        try clear c241
        try clear c242
        try clear c243
        try clear c244
        try clear c246
        try clear c247
        try clear c248
        try clear c249
        try clear c250
        try clear c251
        try clear c254
        try clear c255
        try clear c256
        try clear c257
        try clear c258
        try clear c260
        try clear c261
        try clear c262
        try clear c263
        try clear c266
        try clear c267
        try clear c268
        try clear c269
        try clear c270
        try clear c271
        try clear c272
        try clear c274
        try clear c275
        try clear c276
        try clear c277
        try clear c278
        try clear c279
        try clear c282
        try clear c283
        try clear c284
        try clear c285
        try clear c286
        try clear c288
        try clear c289
        try clear c290
        try clear c291
        try clear c294
        try clear c295
        try clear c296
        try clear c297
        try clear c298
        try clear c299
        try clear c300
        try clear c302
        try clear c303
        try clear c304
        try clear c305
        try clear c306
        try clear c307
        try clear hcz101_0
        try clear hcz101_1
        try clear hcz106_0
        try clear hcz106_1
        try clear hcz123_0
        try clear hcz123_1
        try clear hcz135_0
        try clear hcz135_1
        try clear hcz140_0
        try clear hcz140_1
        try clear hcz145_0
        try clear hcz145_1
        try clear hcz145_2
        try clear hcz145_3
        try clear hcz148_0
        try clear hcz148_1
        try clear hcz148_2
        try clear hcz148_3
        try clear hcz155_0
        try clear hcz155_1
        try clear hcz15_0
        try clear hcz15_1
        try clear hcz160_0
        try clear hcz160_1
        try clear hcz165_0
        try clear hcz165_1
        try clear hcz165_2
        try clear hcz165_3
        try clear hcz168_0
        try clear hcz168_1
        try clear hcz168_2
        try clear hcz168_3
        try clear hcz175_0
        try clear hcz175_1
        try clear hcz17_0
        try clear hcz17_1
        try clear hcz180_0
        try clear hcz180_1
        try clear hcz191_0
        try clear hcz191_1
        try clear hcz193_0
        try clear hcz193_1
        try clear hcz204_0
        try clear hcz204_1
        try clear hcz206_0
        try clear hcz206_1
        try clear hcz212_0
        try clear hcz212_1
        try clear hcz225_0
        try clear hcz225_1
        try clear hcz233_0
        try clear hcz233_1
        try clear hcz233_2
        try clear hcz233_3
        try clear hcz245_0
        try clear hcz245_1
        try clear hcz252_0
        try clear hcz252_1
        try clear hcz259_0
        try clear hcz259_1
        try clear hcz259_2
        try clear hcz259_3
        try clear hcz25_0
        try clear hcz25_1
        try clear hcz264_0
        try clear hcz264_1
        try clear hcz264_2
        try clear hcz264_3
        try clear hcz273_0
        try clear hcz273_1
        try clear hcz280_0
        try clear hcz280_1
        try clear hcz287_0
        try clear hcz287_1
        try clear hcz287_2
        try clear hcz287_3
        try clear hcz28_0
        try clear hcz28_1
        try clear hcz28_2
        try clear hcz28_3
        try clear hcz292_0
        try clear hcz292_1
        try clear hcz292_2
        try clear hcz292_3
        try clear hcz29_0
        try clear hcz29_1
        try clear hcz301_0
        try clear hcz301_1
        try clear hcz308_0
        try clear hcz308_1
        try clear hcz35_0
        try clear hcz35_1
        try clear hcz45_0
        try clear hcz45_1
        try clear hcz51_0
        try clear hcz51_1
        try clear hcz51_2
        try clear hcz51_3
        try clear hcz61_0
        try clear hcz61_1
        try clear hcz66_0
        try clear hcz66_1
        try clear hcz71_0
        try clear hcz71_1
        try clear hcz71_2
        try clear hcz71_3
        try clear hcz74_0
        try clear hcz74_1
        try clear hcz74_2
        try clear hcz74_3
        try clear hcz7_0
        try clear hcz7_1
        try clear hcz81_0
        try clear hcz81_1
        try clear hcz86_0
        try clear hcz86_1
        try clear hcz91_0
        try clear hcz91_1
        try clear hcz91_2
        try clear hcz91_3
        try clear hcz94_0
        try clear hcz94_1
        try clear hcz94_2
        try clear hcz94_3
        try clear hfz101_0
        try clear hfz101_1
        try clear hfz106_0
        try clear hfz106_1
        try clear hfz123_0
        try clear hfz123_1
        try clear hfz135_0
        try clear hfz135_1
        try clear hfz140_0
        try clear hfz140_1
        try clear hfz145_0
        try clear hfz145_1
        try clear hfz145_2
        try clear hfz145_3
        try clear hfz148_0
        try clear hfz148_1
        try clear hfz148_2
        try clear hfz148_3
        try clear hfz155_0
        try clear hfz155_1
        try clear hfz15_0
        try clear hfz15_1
        try clear hfz160_0
        try clear hfz160_1
        try clear hfz165_0
        try clear hfz165_1
        try clear hfz165_2
        try clear hfz165_3
        try clear hfz168_0
        try clear hfz168_1
        try clear hfz168_2
        try clear hfz168_3
        try clear hfz175_0
        try clear hfz175_1
        try clear hfz17_0
        try clear hfz17_1
        try clear hfz180_0
        try clear hfz180_1
        try clear hfz191_0
        try clear hfz191_1
        try clear hfz193_0
        try clear hfz193_1
        try clear hfz204_0
        try clear hfz204_1
        try clear hfz206_0
        try clear hfz206_1
        try clear hfz212_0
        try clear hfz212_1
        try clear hfz225_0
        try clear hfz225_1
        try clear hfz233_0
        try clear hfz233_1
        try clear hfz233_2
        try clear hfz233_3
        try clear hfz245_0
        try clear hfz245_1
        try clear hfz252_0
        try clear hfz252_1
        try clear hfz259_0
        try clear hfz259_1
        try clear hfz259_2
        try clear hfz259_3
        try clear hfz25_0
        try clear hfz25_1
        try clear hfz264_0
        try clear hfz264_1
        try clear hfz264_2
        try clear hfz264_3
        try clear hfz273_0
        try clear hfz273_1
        try clear hfz280_0
        try clear hfz280_1
        try clear hfz287_0
        try clear hfz287_1
        try clear hfz287_2
        try clear hfz287_3
        try clear hfz28_0
        try clear hfz28_1
        try clear hfz28_2
        try clear hfz28_3
        try clear hfz292_0
        try clear hfz292_1
        try clear hfz292_2
        try clear hfz292_3
        try clear hfz29_0
        try clear hfz29_1
        try clear hfz301_0
        try clear hfz301_1
        try clear hfz308_0
        try clear hfz308_1
        try clear hfz35_0
        try clear hfz35_1
        try clear hfz45_0
        try clear hfz45_1
        try clear hfz51_0
        try clear hfz51_1
        try clear hfz51_2
        try clear hfz51_3
        try clear hfz61_0
        try clear hfz61_1
        try clear hfz66_0
        try clear hfz66_1
        try clear hfz71_0
        try clear hfz71_1
        try clear hfz71_2
        try clear hfz71_3
        try clear hfz74_0
        try clear hfz74_1
        try clear hfz74_2
        try clear hfz74_3
        try clear hfz7_0
        try clear hfz7_1
        try clear hfz81_0
        try clear hfz81_1
        try clear hfz86_0
        try clear hfz86_1
        try clear hfz91_0
        try clear hfz91_1
        try clear hfz91_2
        try clear hfz91_3
        try clear hfz94_0
        try clear hfz94_1
        try clear hfz94_2
        try clear hfz94_3
        try clear p2
        obtain ⟨kq, x121_197, rfl, HA, HJ197, HO_241001, HO_247001, HO_257001, HO_286001, BK225, BK240, BK241, BK246, BK256, BK257, BK285, BK286, HB⟩ := hcut
        have hl257001_197 := (Kd.R_reads' HO_257001.out).1
        rw [hl257001_197] at HO_257001
        (try simp only [hl257001_197])
        (try simp only [hl257001_197] at BK225)
        (try simp only [hl257001_197] at BK240)
        (try simp only [hl257001_197] at BK241)
        (try simp only [hl257001_197] at BK246)
        (try simp only [hl257001_197] at BK256)
        (try simp only [hl257001_197] at BK257)
        (try simp only [hl257001_197] at BK285)
        (try simp only [hl257001_197] at BK286)
        (try simp only [hl257001_197] at HO_241001)
        (try simp only [hl257001_197] at HO_247001)
        (try simp only [hl257001_197] at HO_286001)
        cases kq with
        | zero => exact absurd HA.out (by simp [laws_FnExactTake.j2])
        | succ kj197 =>
         have H := HA.out
         clear HA
         simp only [laws_FnExactTake.j2] at H
         by_cases c310 : x121_197 = true
         ·
          subst c310
          have H1 : (some false) = some r := by rw [if_pos rfl] at H; exact H
          clear H
          have H := H1
          clear H1
          obtain rfl := Option.some.inj H
          go_wp2
          go_ret
          exact ⟨zq3, zq94⟩
         replace c310 := Bool.eq_false_iff.mpr c310
         subst c310
         have H1 : ((laws_heldNet.f kj197 t247 t270 1).bind fun t289 => (if t289 < 0 then (some false) else (if t289 = t269 then (some true) else (some false)))) = some r := by rw [if_neg (show ¬ (false = true) by decide)] at H; exact H
         clear H
         have H := H1
         clear H1
         replace H := Option.bind_eq_some_iff.mp H
         obtain ⟨t289, A3110, H⟩ := H
         try dsimp only at H
         have A311 := Aside0.mk A3110
         clear A3110
         by_cases c312 : t289 < 0
         ·
          rw [if_pos c312] at H
          have c312b0 := decide_eq_true c312
          clear c312
          obtain rfl := Option.some.inj H
          have hnb313 := NB256_225.out
          have hnc313 := NB225_256.out
          have hnb314 := NB256_240.out
          have hnc314 := NB240_256.out
          have hnb315 := NB256_241.out
          have hnc315 := NB241_256.out
          have hnb316 := NB256_246.out
          have hnc316 := NB246_256.out
          have hnb317 := NB256_257.out
          have hnc317 := NB257_256.out
          have hnb318 := NB256_285.out
          have hnc318 := NB285_256.out
          have hnb319 := NB256_286.out
          have hnc319 := NB286_256.out
          obtain ⟨hcz320_0, hcz320_1, hfz320_0, hfz320_1⟩ := c2 (w := wc) BK256
          go_wp2_with (first | ((with_reducible refine gC 24 rfl ?_); refine gL 124 Try.func24 #[.agg #[.int .i64 t247, .slice Ao46 t270.length co46], .int .i64 1] ?_; (with_reducible refine (laws_heldNet.calls kj197 t247 _ _ t270 1 t289 _ ?_ ?_ A311.out).mono ?_); exact zq69; exact zq70; rintro e w321 ⟨rfl, hb⟩; refine ⟨_, rfl, ?_⟩; replace HO_241001 := rB zq53 hb; replace HO_247001 := rB zq54 hb; replace HO_257001 := rB zq55 hb; replace HO_286001 := rB zq109 hb; replace BK225 := bF BK225 zq14 hb; replace BK240 := bF BK240 zq18 hb; replace BK241 := bF BK241 zq25 hb; replace BK246 := bF BK246 zq32 hb; replace BK256 := bF BK256 zq33 hb; replace BK257 := bF BK257 zq48 hb; replace BK285 := bF BK285 zq78 hb; replace BK286 := bF BK286 zq95 hb; replace HB := sB zq94 hb; clear hb))
          go_ret
          exact ⟨zq3, zq94⟩
         rw [if_neg c312] at H
         have c312b0 := decide_eq_false c312
         clear c312
         by_cases c322 : t289 = t269
         ·
          rw [if_pos c322] at H
          have c322b0 : (t289 == t269) = true := beq_iff_eq.mpr c322
          have c322b1 : (t289 != t269) = false := bne_eq_false_iff_eq.mpr c322
          clear c322
          obtain rfl := Option.some.inj H
          have hnb323 := NB256_225.out
          have hnc323 := NB225_256.out
          have hnb324 := NB256_240.out
          have hnc324 := NB240_256.out
          have hnb325 := NB256_241.out
          have hnc325 := NB241_256.out
          have hnb326 := NB256_246.out
          have hnc326 := NB246_256.out
          have hnb327 := NB256_257.out
          have hnc327 := NB257_256.out
          have hnb328 := NB256_285.out
          have hnc328 := NB285_256.out
          have hnb329 := NB256_286.out
          have hnc329 := NB286_256.out
          obtain ⟨hcz330_0, hcz330_1, hfz330_0, hfz330_1⟩ := c2 (w := wc) BK256
          go_wp2_with (first | ((with_reducible refine gC 24 rfl ?_); refine gL 124 Try.func24 #[.agg #[.int .i64 t247, .slice Ao46 t270.length co46], .int .i64 1] ?_; (with_reducible refine (laws_heldNet.calls kj197 t247 _ _ t270 1 t289 _ ?_ ?_ A311.out).mono ?_); exact zq69; exact zq70; rintro e w331 ⟨rfl, hb⟩; refine ⟨_, rfl, ?_⟩; replace HO_241001 := rB zq53 hb; replace HO_247001 := rB zq54 hb; replace HO_257001 := rB zq55 hb; replace HO_286001 := rB zq109 hb; replace BK225 := bF BK225 zq14 hb; replace BK240 := bF BK240 zq18 hb; replace BK241 := bF BK241 zq25 hb; replace BK246 := bF BK246 zq32 hb; replace BK256 := bF BK256 zq33 hb; replace BK257 := bF BK257 zq48 hb; replace BK285 := bF BK285 zq78 hb; replace BK286 := bF BK286 zq95 hb; replace HB := sB zq94 hb; clear hb))
          go_ret
          exact ⟨zq3, zq94⟩
         rw [if_neg c322] at H
         have c322b0 : (t289 == t269) = false := beq_eq_false_iff_ne.mpr c322
         have c322b1 : (t289 != t269) = true := bne_iff_ne.mpr c322
         obtain rfl := Option.some.inj H
         have hnb332 := NB256_225.out
         have hnc332 := NB225_256.out
         have hnb333 := NB256_240.out
         have hnc333 := NB240_256.out
         have hnb334 := NB256_241.out
         have hnc334 := NB241_256.out
         have hnb335 := NB256_246.out
         have hnc335 := NB246_256.out
         have hnb336 := NB256_257.out
         have hnc336 := NB257_256.out
         have hnb337 := NB256_285.out
         have hnc337 := NB285_256.out
         have hnb338 := NB256_286.out
         have hnc338 := NB286_256.out
         obtain ⟨hcz339_0, hcz339_1, hfz339_0, hfz339_1⟩ := c2 (w := wc) BK256
         go_wp2_with (first | ((with_reducible refine gC 24 rfl ?_); refine gL 124 Try.func24 #[.agg #[.int .i64 t247, .slice Ao46 t270.length co46], .int .i64 1] ?_; (with_reducible refine (laws_heldNet.calls kj197 t247 _ _ t270 1 t289 _ ?_ ?_ A311.out).mono ?_); exact zq69; exact zq70; rintro e w340 ⟨rfl, hb⟩; refine ⟨_, rfl, ?_⟩; replace HO_241001 := rB zq53 hb; replace HO_247001 := rB zq54 hb; replace HO_257001 := rB zq55 hb; replace HO_286001 := rB zq109 hb; replace BK225 := bF BK225 zq14 hb; replace BK240 := bF BK240 zq18 hb; replace BK241 := bF BK241 zq25 hb; replace BK246 := bF BK246 zq32 hb; replace BK256 := bF BK256 zq33 hb; replace BK257 := bF BK257 zq48 hb; replace BK285 := bF BK285 zq78 hb; replace BK286 := bF BK286 zq95 hb; replace HB := sB zq94 hb; clear hb))
         go_ret
         exact ⟨zq3, zq94⟩
      rw [if_neg c195] at H
      have c195b0 : (t271 == t269) = false := beq_eq_false_iff_ne.mpr c195
      have c195b1 : (t271 != t269) = true := bne_iff_ne.mpr c195
      obtain rfl := Option.some.inj H
      have hnb341 := NB256_225.out
      have hnc341 := NB225_256.out
      have hnb342 := NB256_240.out
      have hnc342 := NB240_256.out
      have hnb343 := NB256_241.out
      have hnc343 := NB241_256.out
      have hnb344 := NB256_246.out
      have hnc344 := NB246_256.out
      have hnb345 := NB256_257.out
      have hnc345 := NB257_256.out
      obtain ⟨hcz346_0, hcz346_1, hfz346_0, hfz346_1⟩ := c2 (w := wc) BK256
      go_wp2_with (first | ((with_reducible refine gC 23 rfl ?_); refine gL 89 Try.func23 #[.agg #[.int .i64 t247, .slice Ao46 t248.length co46], .int .i64 1] ?_; (with_reducible refine (laws_markNet.calls kj112 t247 (fun k_ => some k_ = (.slice Ao46 t248.length co46 : Value).ownBlock) (.slice Ao46 t248.length co46) t248 1 t269 t270 w _ ?_ ?_ A183.out).mono ?_); exact zq47; exact zq73; rintro e w347 ⟨rfl, hy0, hb, hkp⟩; refine ⟨_, rfl, ?_⟩; replace HO_241001 := Aside0.mk (Kd.R_mono (ok' := fun k_ => some k_ ≠ (.slice Ao36 t266.length co36 : Value).ownBlock ∧ some k_ ≠ (.slice Ao46 t248.length co46 : Value).ownBlock ∧ k_ ≠ gb241 ∧ k_ ≠ gb257) (Kd.R_keptB (HO_241001.out) hkp (fun k_ hk_ hs_ => by first | exact (hk_.2.1) hs_ | simp_all)) (fun k_ hk_ => by first | exact ⟨hk_.1.1, hk_.1.2.1, hk_.1.2.2.1, hk_.1.2.2.2⟩ | simp_all)); replace HO_247001 := Aside0.mk (Kd.R_mono (ok' := fun k_ => some k_ ≠ (.slice Ao26 t232.length co26 : Value).ownBlock ∧ some k_ ≠ (.slice Ao46 t248.length co46 : Value).ownBlock ∧ k_ ≠ gb241 ∧ k_ ≠ gb257) (Kd.R_keptB (HO_247001.out) hkp (fun k_ hk_ hs_ => by first | exact (hk_.2.1) hs_ | simp_all)) (fun k_ hk_ => by first | exact ⟨hk_.1.1, hk_.1.2.1, hk_.1.2.2.1, hk_.1.2.2.2⟩ | simp_all)); replace BK225 := Aside0.mk (blk_kept zq59 hkp (fun hs_ => (fun e_ => (Kd.R_ne HO_257001.out BK225.out (by decide)) e_) hs_)); replace BK240 := Aside0.mk (blk_kept zq60 hkp (fun hs_ => (fun e_ => (Kd.R_ne HO_257001.out BK240.out (by decide)) e_) hs_)); replace BK241 := Aside0.mk (blk_kept zq61 hkp (fun hs_ => (fun e_ => (Kd.R_away HO_257001.out (fun _ hk => hk.2.2.1)) e_) hs_)); replace BK246 := Aside0.mk (blk_kept zq62 hkp (fun hs_ => (fun e_ => (Kd.R_ne HO_257001.out BK246.out (by decide)) e_) hs_)); replace BK256 := Aside0.mk (blk_kept zq63 hkp (fun hs_ => (fun e_ => (Kd.R_ne HO_257001.out BK256.out (by decide)) e_) hs_)); replace BK257 := Aside0.mk (blk_kept zq64 hkp (fun hs_ => (fun e_ => (Kd.R_away HO_257001.out (fun _ hk => hk.2.2.2)) e_) hs_)); replace HO_257001 := Aside0.mk (Kd.R_reok rfl hy0 (fun k_ e_ => HO_257001.out.1 k_ e_)); replace HB := Aside0.mk hb; clear hb; (try clear hkp); (try clear hy0); obtain ⟨hcz348_0, hcz348_1, hfz348_0, hfz348_1⟩ := c2 (w := w347) BK256) | ((with_reducible refine gC 24 rfl ?_); refine gL 92 Try.func24 #[.agg #[.int .i64 t247, .slice Ao46 t270.length co46], .int .i64 1] ?_ (hargs := by (try simp only [List.map_toArray, List.map_cons, List.map_nil]); first | done | (rw [show t270.length = t248.length from (Kd.R_reads' HO_257001.out).1.symm] <;> rfl) | rfl | (simp only [List.length_drop, List.length_take]; rfl)); (with_reducible refine (laws_heldNet.calls kj112 t247 _ _ t270 1 t271 _ ?_ ?_ A184.out).mono ?_); exact zq69; exact zq75; rintro e w349 ⟨rfl, hb⟩; refine ⟨_, rfl, ?_⟩; replace HO_241001 := rB zq53 hb; replace HO_247001 := rB zq54 hb; replace HO_257001 := rB zq55 hb; replace BK225 := bF BK225 zq14 hb; replace BK240 := bF BK240 zq18 hb; replace BK241 := bF BK241 zq25 hb; replace BK246 := bF BK246 zq32 hb; replace BK256 := bF BK256 zq33 hb; replace BK257 := bF BK257 zq48 hb; replace HB := sB zq47 hb; clear hb))
      go_ret
      exact ⟨zq3, zq47⟩
   replace c111 := Bool.eq_false_iff.mpr c111
   subst c111
   have H1 : (some false) = some r := by rw [if_neg (show ¬ (false = true) by decide)] at H; exact H
   clear H
   have H := H1
   clear H1
   obtain rfl := Option.some.inj H
   try go_wp2
   replace HO_241001 := Aside0.mk (Kd.R_drew HO_241001.out)
   replace HO_247001 := Aside0.mk (Kd.R_drew HO_247001.out)
   replace HO_257001 := Aside0.mk (Kd.R_drew HO_257001.out)
   replace BK225 := Aside0.mk (blk_drew BK225.out)
   replace BK240 := Aside0.mk (blk_drew BK240.out)
   replace BK241 := Aside0.mk (blk_drew BK241.out)
   replace BK246 := Aside0.mk (blk_drew BK246.out)
   replace BK256 := Aside0.mk (blk_drew BK256.out)
   replace BK257 := Aside0.mk (blk_drew BK257.out)
   replace HB := Aside0.mk (below_drew1 HB.out)
   refine start_ (n := 5) (S := fun w' => w'.cell? ⟨gb246, 0, none⟩ = some (.int .i64 t242) ∧ w'.cell? ⟨gb246, 1, none⟩ = some (.slice Ao36 t243.length co36) ∧ w'.cell? ⟨gb225, 0, none⟩ = some (.int .i64 a0_0) ∧ w'.cell? ⟨gb225, 1, none⟩ = some (.slice A0_1 l0_1.length c0_1)) (ds := []) #[false, false, false, false, false] (by kernel_rfl) rfl rfl ⟨(blk_cell BK246.out 0).trans rfl, (blk_cell BK246.out 1).trans rfl, (blk_cell BK225.out 0).trans rfl, (blk_cell BK225.out 1).trans rfl⟩ (fun hHeld => ?_)
   generalize wc.drew = w350 at HO_241001 HO_247001 HO_257001 BK225 BK240 BK241 BK246 BK256 BK257 HB hHeld ⊢
   refine take_ (i := 0) (N := some 60) (v := ?_) (a' := ?_) #[true, false, false, false, false] rfl rfl (by kernel_rfl) (fun _ _ _ h => h) (Or.inl ⟨by rfl, ?_⟩) hHeld ?_ ?_
   rotate_left
   exact zq287
   rotate_left
   exact zq288
   refine take_ (i := 1) (N := some 61) (v := ?_) (a' := ?_) #[true, true, false, false, false] rfl rfl (by kernel_rfl) (fun _ _ _ h => h) (Or.inl ⟨by rfl, ?_⟩) hHeld ?_ ?_
   rotate_left
   exact zq287
   rotate_left
   exact zq288
   refine one_ (i := 2) (N := some 62) #[true, true, true, false, false] rfl rfl (by kernel_rfl) (by decide) (fun K hK => ?_)
   refine goes_ Try.func19 (by kernel_rfl) rfl #[.agg #[.int .i64 a0_0, .slice A0_1 l0_1.length c0_1]] (by rfl) rfl rfl zq7 ?_
   with_reducible refine (laws_toNet.calls kj12 a0_0 _ _ l0_1 t260 t261 _ ?side1 ?side2 A109.out).mono ?_
   (case side1 => exact zq9)
   (case side2 => exact zq10)
   rintro e w351 ⟨v262, rfl, ho0, hb⟩
   refine ⟨_, rfl, ?_⟩
   have HO263 := Aside0.mk (Kd.R_lower (Kd.R_newB (Kd.R_newB (Kd.R_new' (Kd.R_new' (Kd.R_new' ho0 (Kd.R_lt zq53)) (Kd.R_lt zq54)) (Kd.R_lt zq55)) (g := gb241) (o := .cells #[.int .i64 t235, .int .i64 t236, .int .i64 t237, .string t238] 39 (0, 0)) zq25) (g := gb257) (o := .cells #[.int .i64 t251, .int .i64 t252, .int .i64 t253, .string t254] 39 (0, 0)) zq48) (below_size zq47))
   replace HO_241001 := Aside0.mk (Kd.R_elder' zq53 (Kd.R_base ho0) hb)
   replace HO_247001 := Aside0.mk (Kd.R_elder' zq54 (Kd.R_base ho0) hb)
   replace HO_257001 := Aside0.mk (Kd.R_elder' zq55 (Kd.R_base ho0) hb)
   replace BK225 := bF BK225 zq14 hb
   replace BK240 := bF BK240 zq18 hb
   replace BK241 := bF BK241 zq25 hb
   replace BK246 := bF BK246 zq32 hb
   replace BK256 := bF BK256 zq33 hb
   replace BK257 := bF BK257 zq48 hb
   replace HB := sB zq47 hb
   (try clear hb)
   (try clear hb2)
   (try clear hk)
   (try clear hi)
   (try clear ho0)
   obtain ⟨Ao352, co352, eo352⟩ := Kd.R_slice HO263.out
   (first | subst eo352 | (injection eo352 with f1_ f2_ f3_; have f4_ := f1_.symm; have f5_ := f3_.symm; clear f1_ f2_ f3_; subst f4_; subst f5_))
   refine hK.out _ _ ⟨(blk_cell BK246.out 0).trans rfl, (blk_cell BK246.out 1).trans rfl, (blk_cell BK225.out 0).trans rfl, (blk_cell BK225.out 1).trans rfl⟩ (fun hHeld => ?_)
   clear hK K
   refine norm_ (a' := ?_) ?_ ?_
   rotate_left
   ·
    show Act.put _ (some 62) _ = _
    simp only [Act.put, List.setIfInBounds_toArray, List.set_cons_zero, List.set_cons_succ, i64_w, i32_w]
    rfl
   refine one_ (i := 3) (N := some 63) #[true, true, true, true, false] rfl rfl (by kernel_rfl) (by decide) (fun K hK => ?_)
   refine goes_ Try.func21 (by kernel_rfl) rfl #[.agg #[.int .i64 t242, .slice Ao36 t243.length co36], .agg #[.int .i64 t260, .slice Ao352 t261.length co352]] (by rfl) rfl rfl zq7 ?_
   with_reducible refine (laws_eqNet.calls kj12 t242 _ _ t243 t260 _ _ t261 false _ ?side1 ?side2 ?side3 ?side4 A110.out).mono ?_
   (case side1 => exact zq56)
   (case side2 => exact (Kd.R_reads' HO_247001.out).2.1)
   (case side3 => exact zq57)
   (case side4 => exact (Kd.R_reads' HO263.out).2.1)
   rintro e w353 ⟨rfl, hb⟩
   refine ⟨_, rfl, ?_⟩
   replace HO_241001 := rB zq53 hb
   replace HO_247001 := rB zq54 hb
   replace HO_257001 := rB zq55 hb
   replace HO263 := rB zq58 hb
   replace BK225 := bF BK225 zq14 hb
   replace BK240 := bF BK240 zq18 hb
   replace BK241 := bF BK241 zq25 hb
   replace BK246 := bF BK246 zq32 hb
   replace BK256 := bF BK256 zq33 hb
   replace BK257 := bF BK257 zq48 hb
   replace HB := sB zq47 hb
   (try clear hb)
   (try clear hb2)
   (try clear hk)
   (try clear hi)
   refine hK.out _ _ ⟨(blk_cell BK246.out 0).trans rfl, (blk_cell BK246.out 1).trans rfl, (blk_cell BK225.out 0).trans rfl, (blk_cell BK225.out 1).trans rfl⟩ (fun hHeld => ?_)
   clear hK K
   refine norm_ (a' := ?_) ?_ ?_
   rotate_left
   ·
    show Act.put _ (some 63) _ = _
    simp only [Act.put, List.setIfInBounds_toArray, List.set_cons_zero, List.set_cons_succ, i64_w, i32_w]
    rfl
   refine pure_ (i := 4) (N := some 64) (v := ?_) (a' := ?_) #[true, true, true, true, true] rfl rfl (by kernel_rfl) (fun _ _ _ h => h) (Or.inl ⟨by rfl, ?_⟩) ?_ ?_
   rotate_left
   exact zq289
   rotate_left
   exact zq288
   refine done_ (by kernel_rfl) ?_
   try go_wp2
   go_ret
   exact ⟨zq3, zq47⟩

/-- THE ONE PURE STATEMENT of laws_FnExactTake. -/
def laws_FnExactTake.Pure : Prop := ∀ (a0_0 : Int) (l0_1 : List (S88)) (a1 : Int) (a2 : Bool), (Lit.int .i64 a0_0).wf = true → (l0_1.length ≤ maxLen ∧ ∀ y0_ ∈ l0_1, ((Lit.int .i64 y0_.f0).wf = true ∧ (Lit.int .i64 y0_.f1).wf = true ∧ (Lit.int .i64 y0_.f2).wf = true ∧ y0_.f3.size ≤ maxLen)) → (Lit.int .i64 a1).wf = true → ∃ k, laws_FnExactTake.f k a0_0 l0_1 a1 a2 = some true

end Go.Proofs.Ytklaigmpceacaaa.QFnExactTake
