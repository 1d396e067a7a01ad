/- Written by wip/myprint.py of this repo (the kit's print, with additions of this session). -/
import Derived.Test.YtcefbmcehmkpnaaQFnExactCuttingx0
import Derived.Test.YtcefbmcehmkpnaaQFnExactCuttingx3
import Derived.Test.YtcefbmcehmkpnaaQFnExactCuttingx5
import Derived.Test.YtcefbmcehmkpnaaQFnExactCuttingx6
import Derived.Test.YtcefbmcehmkpnaaQFnExactCuttingx7
import Derived.Test.YtcefbmcehmkpnaaQFnExactCuttingx8
import Derived.Test.YtcefbmcehmkpnaaQFnExactCuttingx9
namespace Go.Proofs.Ytcefbmcehmkpnaa.QFnExactCutting
open Go.RowKit Go.Proofs.YtcefbmcehmkpnaaW.PrintWords Go.Proofs.YtcefbmcehmkpnaaW.PrintLast Go.Proofs.YtcefbmcehmkpnaaW.PrintMore
attribute [local go_sem] max2_int min2_int max_two min_two max_three min_three max_four min_four   -- for this text's walks alone
set_option linter.unusedVariables false
set_option linter.unusedSimpArgs false

/-! ### laws_FnExactCutting: function 6 -/
mutual
def laws_FnExactCutting.j0 : Nat → List Int → Int → List Int → Int → Bool → Int → List (S95) → Int → List (S34) → Int → List (S34) → Int → List (S34) → Option (Bool)
 | 0, _, _, _, _, _, _, _, _, _, _, _, _, _ => none
 | k + 1, x1, x7, x9, x11, x51, x204000, x204001, x218000, x218001, x223000, x223001, x232000, x232001 => if x51 = true then (some false) else ((laws_toNet.f k x204000 x204001).bind fun bt233 => ((laws_eqNet.f k x223000 x223001 bt233.1 bt233.2).bind fun t237 => (if t237 = true then ((laws_toInt64S.f k x1).bind fun t238 => ((laws_eqInt64S.f k x9 t238).bind fun t241 => (if t241 = true then ((laws_markNet.f k x223000 x223001 1).bind fun bt242 => ((laws_markInt64S.f k x9 bt242.1).bind fun bt244 => (if bt244.1 < 0 then (laws_FnExactCutting.j1 k x1 x7 true x204000 x204001 x218000 x218001 x232000 x232001) else ((laws_eqNet.f k x232000 x232001 x218000 x218001).bind fun t246 => (if t246 = true then (laws_FnExactCutting.j1 k x1 x7 (x11 != x7) x204000 x204001 x218000 x218001 x232000 x232001) else (laws_FnExactCutting.j1 k x1 x7 true x204000 x204001 x218000 x218001 x232000 x232001)))))) else (some false)))) else (some false))))
def laws_FnExactCutting.j1 : Nat → List Int → Int → Bool → Int → List (S95) → Int → List (S34) → Int → List (S34) → Option (Bool)
 | 0, _, _, _, _, _, _, _, _, _ => none
 | k + 1, x1, x7, x80, x204000, x204001, x218000, x218001, x232000, x232001 => if x80 = true then (some false) else ((laws_markNet.f k x232000 x232001 1).bind fun bt247 => ((laws_heldNet.f k x232000 bt247.2 1).bind fun t249 => (if t249 < 0 then (some false) else (if t249 = bt247.1 then ((laws_toNet.f k x204000 x204001).bind fun bt250 => ((laws_toInt64S.f k x1).bind fun t254 => ((impl_Cutting.f k bt250.1 bt250.2 t254).bind fun bt257 => ((laws_eqNet.f k bt257.1 bt257.2.1 x218000 x218001).bind fun t263 => (if t263 = true then (laws_FnExactCutting.j2 k bt247.1 (bt257.2.2 != x7) x232000 bt247.2) else (laws_FnExactCutting.j2 k bt247.1 true x232000 bt247.2)))))) else (some false)))))
def laws_FnExactCutting.j2 : Nat → Int → Bool → Int → List (S34) → Option (Bool)
 | 0, _, _, _, _ => none
 | k + 1, x13, x108, x232000, x232001 => if x108 = true then (some false) else ((laws_heldNet.f k x232000 x232001 1).bind fun t264 => (if t264 < 0 then (some false) else (if t264 = x13 then (some true) else (some false))))
end
def laws_FnExactCutting.f (k : Nat) (a0_0 : Int) (l0_1 : List (S95)) (l1 : List Int) : Option (Bool) := if (l1.length : Int) > 1048576 then (some true) else ((laws_szNet.f k a0_0 l0_1 1048576).bind fun t204 => (if t204 < 0 then (some true) else ((laws_toNet.f k a0_0 l0_1).bind fun bt205 => ((laws_toInt64S.f k l1).bind fun t209 => ((spec_Cutting.f k bt205.1 bt205.2 t209).bind fun bt212 => ((laws_toNet.f k a0_0 l0_1).bind fun bt218 => ((laws_toInt64S.f k l1).bind fun t223 => ((impl_Cutting.f k bt218.1 bt218.2 t223).bind fun bt226 => ((laws_eqNet.f k bt226.1 bt226.2.1 bt212.1 bt212.2.1).bind fun t232 => (if t232 = true then (laws_FnExactCutting.j0 k l1 bt212.2.2 t223 bt226.2.2 (bt226.2.2 != bt212.2.2) a0_0 l0_1 bt212.1 bt212.2.1 bt218.1 bt218.2 bt226.1 bt226.2.1) else (laws_FnExactCutting.j0 k l1 bt212.2.2 t223 bt226.2.2 true a0_0 l0_1 bt212.1 bt212.2.1 bt218.1 bt218.2 bt226.1 bt226.2.1)))))))))))
theorem laws_FnExactCutting.mono_l : ∀ k, (∀ y0 y1 y2 y3 y4 y5 y6 y7 y8 y9 y10 y11 y12, LeO (laws_FnExactCutting.j0 k y0 y1 y2 y3 y4 y5 y6 y7 y8 y9 y10 y11 y12) (laws_FnExactCutting.j0 (k + 1) y0 y1 y2 y3 y4 y5 y6 y7 y8 y9 y10 y11 y12)) ∧ (∀ y0 y1 y2 y3 y4 y5 y6 y7 y8, LeO (laws_FnExactCutting.j1 k y0 y1 y2 y3 y4 y5 y6 y7 y8) (laws_FnExactCutting.j1 (k + 1) y0 y1 y2 y3 y4 y5 y6 y7 y8)) ∧ (∀ y0 y1 y2 y3, LeO (laws_FnExactCutting.j2 k y0 y1 y2 y3) (laws_FnExactCutting.j2 (k + 1) y0 y1 y2 y3))
 | 0 => ⟨fun _ _ _ _ _ _ _ _ _ _ _ _ _ r h => by simp [laws_FnExactCutting.j0] at h, fun _ _ _ _ _ _ _ _ _ r h => by simp [laws_FnExactCutting.j1] at h, fun _ _ _ _ r h => by simp [laws_FnExactCutting.j2] at h⟩
 | k + 1 => by
  obtain ⟨ih0, ih1, ih2⟩ := laws_FnExactCutting.mono_l k
  refine ⟨?_, ?_, ?_⟩
  ·
   intro y0 y1 y2 y3 y4 y5 y6 y7 y8 y9 y10 y11 y12
   unfold laws_FnExactCutting.j0
   repeat' first
   | (with_reducible exact ih0 _ _ _ _ _ _ _ _ _ _ _ _ _)
   | (with_reducible exact ih1 _ _ _ _ _ _ _ _ _)
   | (with_reducible exact ih2 _ _ _ _)
   | (with_reducible exact impl_Cutting.mono _ _ _ _)
   | (with_reducible exact laws_eqInt64S.mono _ _ _)
   | (with_reducible exact laws_eqNet.mono _ _ _ _ _)
   | (with_reducible exact laws_heldNet.mono _ _ _ _)
   | (with_reducible exact laws_markInt64S.mono _ _ _)
   | (with_reducible exact laws_markNet.mono _ _ _ _)
   | (with_reducible exact laws_szNet.mono _ _ _ _)
   | (with_reducible exact laws_toInt64S.mono _ _)
   | (with_reducible exact laws_toNet.mono _ _ _)
   | (with_reducible exact spec_Cutting.mono _ _ _ _)
   | (with_reducible exact LeO.refl _)
   | (with_reducible exact LeO.none _)
   | (with_reducible refine LeO.ite ?_ ?_)
   | (with_reducible refine LeO.bind ?_ (fun _ => ?_))
   | exact ih0 _ _ _ _ _ _ _ _ _ _ _ _ _
   | exact ih1 _ _ _ _ _ _ _ _ _
   | exact ih2 _ _ _ _
   | exact impl_Cutting.mono _ _ _ _
   | exact laws_eqInt64S.mono _ _ _
   | exact laws_eqNet.mono _ _ _ _ _
   | exact laws_heldNet.mono _ _ _ _
   | exact laws_markInt64S.mono _ _ _
   | exact laws_markNet.mono _ _ _ _
   | exact laws_szNet.mono _ _ _ _
   | exact laws_toInt64S.mono _ _
   | exact laws_toNet.mono _ _ _
   | exact spec_Cutting.mono _ _ _ _
   | exact LeO.none _
   | refine LeO.ite ?_ ?_
   | refine LeO.bind ?_ (fun _ => ?_)
  ·
   intro y0 y1 y2 y3 y4 y5 y6 y7 y8
   unfold laws_FnExactCutting.j1
   repeat' first
   | (with_reducible exact ih0 _ _ _ _ _ _ _ _ _ _ _ _ _)
   | (with_reducible exact ih1 _ _ _ _ _ _ _ _ _)
   | (with_reducible exact ih2 _ _ _ _)
   | (with_reducible exact impl_Cutting.mono _ _ _ _)
   | (with_reducible exact laws_eqInt64S.mono _ _ _)
   | (with_reducible exact laws_eqNet.mono _ _ _ _ _)
   | (with_reducible exact laws_heldNet.mono _ _ _ _)
   | (with_reducible exact laws_markInt64S.mono _ _ _)
   | (with_reducible exact laws_markNet.mono _ _ _ _)
   | (with_reducible exact laws_szNet.mono _ _ _ _)
   | (with_reducible exact laws_toInt64S.mono _ _)
   | (with_reducible exact laws_toNet.mono _ _ _)
   | (with_reducible exact spec_Cutting.mono _ _ _ _)
   | (with_reducible exact LeO.refl _)
   | (with_reducible exact LeO.none _)
   | (with_reducible refine LeO.ite ?_ ?_)
   | (with_reducible refine LeO.bind ?_ (fun _ => ?_))
   | exact ih0 _ _ _ _ _ _ _ _ _ _ _ _ _
   | exact ih1 _ _ _ _ _ _ _ _ _
   | exact ih2 _ _ _ _
   | exact impl_Cutting.mono _ _ _ _
   | exact laws_eqInt64S.mono _ _ _
   | exact laws_eqNet.mono _ _ _ _ _
   | exact laws_heldNet.mono _ _ _ _
   | exact laws_markInt64S.mono _ _ _
   | exact laws_markNet.mono _ _ _ _
   | exact laws_szNet.mono _ _ _ _
   | exact laws_toInt64S.mono _ _
   | exact laws_toNet.mono _ _ _
   | exact spec_Cutting.mono _ _ _ _
   | exact LeO.none _
   | refine LeO.ite ?_ ?_
   | refine LeO.bind ?_ (fun _ => ?_)
  ·
   intro y0 y1 y2 y3
   unfold laws_FnExactCutting.j2
   repeat' first
   | (with_reducible exact ih0 _ _ _ _ _ _ _ _ _ _ _ _ _)
   | (with_reducible exact ih1 _ _ _ _ _ _ _ _ _)
   | (with_reducible exact ih2 _ _ _ _)
   | (with_reducible exact impl_Cutting.mono _ _ _ _)
   | (with_reducible exact laws_eqInt64S.mono _ _ _)
   | (with_reducible exact laws_eqNet.mono _ _ _ _ _)
   | (with_reducible exact laws_heldNet.mono _ _ _ _)
   | (with_reducible exact laws_markInt64S.mono _ _ _)
   | (with_reducible exact laws_markNet.mono _ _ _ _)
   | (with_reducible exact laws_szNet.mono _ _ _ _)
   | (with_reducible exact laws_toInt64S.mono _ _)
   | (with_reducible exact laws_toNet.mono _ _ _)
   | (with_reducible exact spec_Cutting.mono _ _ _ _)
   | (with_reducible exact LeO.refl _)
   | (with_reducible exact LeO.none _)
   | (with_reducible refine LeO.ite ?_ ?_)
   | (with_reducible refine LeO.bind ?_ (fun _ => ?_))
   | exact ih0 _ _ _ _ _ _ _ _ _ _ _ _ _
   | exact ih1 _ _ _ _ _ _ _ _ _
   | exact ih2 _ _ _ _
   | exact impl_Cutting.mono _ _ _ _
   | exact laws_eqInt64S.mono _ _ _
   | exact laws_eqNet.mono _ _ _ _ _
   | exact laws_heldNet.mono _ _ _ _
   | exact laws_markInt64S.mono _ _ _
   | exact laws_markNet.mono _ _ _ _
   | exact laws_szNet.mono _ _ _ _
   | exact laws_toInt64S.mono _ _
   | exact laws_toNet.mono _ _ _
   | exact spec_Cutting.mono _ _ _ _
   | exact LeO.none _
   | refine LeO.ite ?_ ?_
   | refine LeO.bind ?_ (fun _ => ?_)
theorem laws_FnExactCutting.mono : ∀ a0 a1 a2 k, LeO (laws_FnExactCutting.f k a0 a1 a2) (laws_FnExactCutting.f (k + 1) a0 a1 a2) := by
 intro a0 a1 a2 k
 obtain ⟨ih0, ih1, ih2⟩ := laws_FnExactCutting.mono_l k
 unfold laws_FnExactCutting.f
 repeat' first
   | (with_reducible exact ih0 _ _ _ _ _ _ _ _ _ _ _ _ _)
   | (with_reducible exact ih1 _ _ _ _ _ _ _ _ _)
   | (with_reducible exact ih2 _ _ _ _)
   | (with_reducible exact impl_Cutting.mono _ _ _ _)
   | (with_reducible exact laws_eqInt64S.mono _ _ _)
   | (with_reducible exact laws_eqNet.mono _ _ _ _ _)
   | (with_reducible exact laws_heldNet.mono _ _ _ _)
   | (with_reducible exact laws_markInt64S.mono _ _ _)
   | (with_reducible exact laws_markNet.mono _ _ _ _)
   | (with_reducible exact laws_szNet.mono _ _ _ _)
   | (with_reducible exact laws_toInt64S.mono _ _)
   | (with_reducible exact laws_toNet.mono _ _ _)
   | (with_reducible exact spec_Cutting.mono _ _ _ _)
   | (with_reducible exact LeO.refl _)
   | (with_reducible exact LeO.none _)
   | (with_reducible refine LeO.ite ?_ ?_)
   | (with_reducible refine LeO.bind ?_ (fun _ => ?_))
   | exact ih0 _ _ _ _ _ _ _ _ _ _ _ _ _
   | exact ih1 _ _ _ _ _ _ _ _ _
   | exact ih2 _ _ _ _
   | exact impl_Cutting.mono _ _ _ _
   | exact laws_eqInt64S.mono _ _ _
   | exact laws_eqNet.mono _ _ _ _ _
   | exact laws_heldNet.mono _ _ _ _
   | exact laws_markInt64S.mono _ _ _
   | exact laws_markNet.mono _ _ _ _
   | exact laws_szNet.mono _ _ _ _
   | exact laws_toInt64S.mono _ _
   | exact laws_toNet.mono _ _ _
   | exact spec_Cutting.mono _ _ _ _
   | exact LeO.none _
   | refine LeO.ite ?_ ?_
   | refine LeO.bind ?_ (fun _ => ?_)
set_option maxHeartbeats 8000000 in
set_option maxRecDepth 100000 in
theorem laws_FnExactCutting.calls (k : Nat) (a0_0 : Int) (A0_1 : Option Addr) (c0_1 : Nat) (l0_1 : List (S95)) (A1 : Option Addr) (c1 : Nat) (l1 : List Int) (r : Bool) (w : World) (hr0_1 : Kd.C k95 w A0_1 l0_1.length l0_1) (hc0_1 : l0_1.length ≤ c0_1) (hr1 : Kd.C (Kd.int .i64) w A1 l1.length l1) (hc1 : l1.length ≤ c1) (h : laws_FnExactCutting.f k a0_0 l0_1 l1 = some r) :
  Calls Try.prog 6 #[.agg #[.int .i64 a0_0, .slice A0_1 l0_1.length c0_1], .slice A1 l1.length c1] w fun e w' => e = .returned (.bool r) ∧ Below w.heap.size w w' := by
 have hu37 := Try.underlying37
 have hu26 := Try.underlying26
 have HR0_1 := Aside0.mk hr0_1
 have HC0_1 := Aside0.mk hc0_1
 clear hr0_1 hc0_1
 have HR1 := Aside0.mk hr1
 have HC1 := Aside0.mk hc1
 clear hr1 hc1
 have HB := Aside0.mk (Below.refl w.heap.size w)
 have H : (if (l1.length : Int) > 1048576 then (some true) else ((laws_szNet.f k a0_0 l0_1 1048576).bind fun t204 => (if t204 < 0 then (some true) else ((laws_toNet.f k a0_0 l0_1).bind fun bt205 => ((laws_toInt64S.f k l1).bind fun t209 => ((spec_Cutting.f k bt205.1 bt205.2 t209).bind fun bt212 => ((laws_toNet.f k a0_0 l0_1).bind fun bt218 => ((laws_toInt64S.f k l1).bind fun t223 => ((impl_Cutting.f k bt218.1 bt218.2 t223).bind fun bt226 => ((laws_eqNet.f k bt226.1 bt226.2.1 bt212.1 bt212.2.1).bind fun t232 => (if t232 = true then (laws_FnExactCutting.j0 k l1 bt212.2.2 t223 bt226.2.2 (bt226.2.2 != bt212.2.2) a0_0 l0_1 bt212.1 bt212.2.1 bt218.1 bt218.2 bt226.1 bt226.2.1) else (laws_FnExactCutting.j0 k l1 bt212.2.2 t223 bt226.2.2 true a0_0 l0_1 bt212.1 bt212.2.1 bt218.1 bt218.2 bt226.1 bt226.2.1)))))))))))) = some r := h
 clear h
 by_cases c3 : (l1.length : Int) > 1048576
 ·
  rw [if_pos c3] at H
  have c3b0 : decide (1048576 < (l1.length : Int)) = true := decide_eq_true c3
  have c3b1 : decide (1048576 < l1.length) = true := decide_eq_true (by omega)
  clear c3
  obtain rfl := Option.some.inj H
  go_enter Try.func6, Try.ntmps6
  go_wp2_with (first | ((with_reducible refine gate_dst (N := 2) rfl ?_); refine box_event ?hg (N := 2) ?hd (cs := #[.int .i64 a0_0, .slice A0_1 l0_1.length c0_1]) (t := 37) ?hr ?_; (case hd => rfl); (case hg => rfl); (case hr => first | (go_simp; done) | (go_simp; rfl)); intro gb203 hg w4 hbox hb; have n0_ := Aside0.mk (below_step (by repeat (first | (with_reducible first | exact HB.out | apply below_alloc | apply pw_below_drewN | apply below_drew1) | exact HB.out)) hb); have n1_ := Aside0.mk (hbox); have n2_ := Aside0.mk ((by rw [hg]; exact (below_size (by repeat (first | (with_reducible first | exact HB.out | apply below_alloc | apply pw_below_drewN | apply below_drew1) | exact HB.out))) : w.heap.size ≤ gb203)); have n3_ := Aside0.mk ((by rw [hg]; exact (below_size (by repeat (first | (with_reducible first | exact HB.out | apply below_alloc | apply pw_below_drewN | apply below_drew1) | exact HB.out))) : w.heap.size ≤ gb203)); clear HB; have HB := n0_; have BK203 := n1_; have GW203 := n2_; have GE203 := n3_; clear n0_ n1_ n2_ n3_; clear hb hbox hg))
  go_ret
  exact ⟨by first | rfl | (simp [errW_none, errW_some] <;> rfl) | (simp [*, errW_none, errW_some] <;> rfl), by repeat (first | (with_reducible first | exact HB.out | apply below_alloc | apply pw_below_drewN | apply below_drew1 | refine below_set ?_ GE203.out) | exact HB.out)⟩
 ·
  rw [if_neg c3] at H
  have c3b0 : decide (1048576 < (l1.length : Int)) = false := decide_eq_false c3
  have c3b1 : decide (1048576 < l1.length) = false := decide_eq_false (by omega)
  clear c3
  replace H := Option.bind_eq_some_iff.mp H
  obtain ⟨t204, A50, H⟩ := H
  replace H : (if t204 < 0 then (some true) else ((laws_toNet.f k a0_0 l0_1).bind fun bt205 => ((laws_toInt64S.f k l1).bind fun t209 => ((spec_Cutting.f k bt205.1 bt205.2 t209).bind fun bt212 => ((laws_toNet.f k a0_0 l0_1).bind fun bt218 => ((laws_toInt64S.f k l1).bind fun t223 => ((impl_Cutting.f k bt218.1 bt218.2 t223).bind fun bt226 => ((laws_eqNet.f k bt226.1 bt226.2.1 bt212.1 bt212.2.1).bind fun t232 => (if t232 = true then (laws_FnExactCutting.j0 k l1 bt212.2.2 t223 bt226.2.2 (bt226.2.2 != bt212.2.2) a0_0 l0_1 bt212.1 bt212.2.1 bt218.1 bt218.2 bt226.1 bt226.2.1) else (laws_FnExactCutting.j0 k l1 bt212.2.2 t223 bt226.2.2 true a0_0 l0_1 bt212.1 bt212.2.1 bt218.1 bt218.2 bt226.1 bt226.2.1)))))))))) = some r := H
  have A5 := Aside0.mk A50
  clear A50
  by_cases c6 : t204 < 0
  ·
   rw [if_pos c6] at H
   have c6b0 : decide (t204 < 0) = true := decide_eq_true c6
   clear c6
   obtain rfl := Option.some.inj H
   go_enter Try.func6, Try.ntmps6
   go_wp2_with (first | ((with_reducible refine gate_dst (N := 2) rfl ?_); refine box_event ?hg (N := 2) ?hd (cs := #[.int .i64 a0_0, .slice A0_1 l0_1.length c0_1]) (t := 37) ?hr ?_; (case hd => rfl); (case hg => rfl); (case hr => first | (go_simp; done) | (go_simp; rfl)); intro gb203 hg w7 hbox hb; have n0_ := Aside0.mk (below_step (by repeat (first | (with_reducible first | exact HB.out | apply below_alloc | apply pw_below_drewN | apply below_drew1) | exact HB.out)) hb); have n1_ := Aside0.mk (hbox); have n2_ := Aside0.mk ((by rw [hg]; exact (below_size (by repeat (first | (with_reducible first | exact HB.out | apply below_alloc | apply pw_below_drewN | apply below_drew1) | exact HB.out))) : w.heap.size ≤ gb203)); have n3_ := Aside0.mk ((by rw [hg]; exact (below_size (by repeat (first | (with_reducible first | exact HB.out | apply below_alloc | apply pw_below_drewN | apply below_drew1) | exact HB.out))) : w.heap.size ≤ gb203)); clear HB; have HB := n0_; have BK203 := n1_; have GW203 := n2_; have GE203 := n3_; clear n0_ n1_ n2_ n3_; clear hb hbox hg; have hcz8_0 : w7.cell? ⟨gb203, 0, none⟩ = some (.int .i64 a0_0) := (blk_cell BK203.out 0).trans rfl; have hcz8_1 : w7.cell? ⟨gb203, 1, none⟩ = some (.slice A0_1 l0_1.length c0_1) := (blk_cell BK203.out 1).trans rfl; have hfz8_0 := blk_frozen BK203.out 0; have hfz8_1 := blk_frozen BK203.out 1) | ((with_reducible refine gate_callee (f := 17) rfl ?_); refine goesL_ (some 22) rfl rfl Try.func17 (by kernel_rfl) rfl #[.agg #[.int .i64 a0_0, .slice A0_1 l0_1.length c0_1], .int .i64 1048576] rfl (by (try simp only [List.map_toArray, List.map_cons, List.map_nil]); first | done | rfl | (simp only [List.length_drop, List.length_take]; rfl)) ?_; (with_reducible refine (laws_szNet.calls k a0_0 _ _ l0_1 1048576 t204 _ ?side1 ?side2 A5.out).mono ?_); (case side1 => repeat (first | exact (Kd.C_below HR0_1.out HB.out) | (with_reducible refine Kd.C_alloc ?_ _) | (with_reducible refine Kd.C_drewN ?_ _) | (with_reducible refine Kd.C_drew ?_))); (case side2 => exact HC0_1.out); rintro e w9 ⟨rfl, hb⟩; refine ⟨_, rfl, ?_⟩; have n0_ := Aside0.mk (blk_below (g := gb203) (o := .cells #[.int .i64 a0_0, .slice A0_1 l0_1.length c0_1] 37 (0, 0)) (by (with_reducible repeat (first | refine blk_drewN ?_ _ | refine blk_drew ?_ | refine blk_alloc ?_ _)); exact BK203.out) hb); have n1_ := Aside0.mk (below_step (by repeat (first | (with_reducible first | exact HB.out | apply below_alloc | apply pw_below_drewN | apply below_drew1 | refine below_set ?_ GE203.out) | exact HB.out)) hb); clear BK203; clear HB; have BK203 := n0_; have HB := n1_; clear n0_ n1_; (try clear hb); (try clear hb2); (try clear hk); (try clear hi)))
   go_ret
   exact ⟨by first | rfl | (simp [errW_none, errW_some] <;> rfl) | (simp [*, errW_none, errW_some] <;> rfl), by repeat (first | (with_reducible first | exact HB.out | apply below_alloc | apply pw_below_drewN | apply below_drew1 | refine below_set ?_ GE203.out) | exact HB.out)⟩
  ·
   rw [if_neg c6] at H
   have c6b0 : decide (t204 < 0) = false := decide_eq_false c6
   clear c6
   replace H := Option.bind_eq_some_iff.mp H
   obtain ⟨⟨t205, t206⟩, A100, H⟩ := H
   replace H : ((laws_toInt64S.f k l1).bind fun t209 => ((spec_Cutting.f k t205 t206 t209).bind fun bt212 => ((laws_toNet.f k a0_0 l0_1).bind fun bt218 => ((laws_toInt64S.f k l1).bind fun t223 => ((impl_Cutting.f k bt218.1 bt218.2 t223).bind fun bt226 => ((laws_eqNet.f k bt226.1 bt226.2.1 bt212.1 bt212.2.1).bind fun t232 => (if t232 = true then (laws_FnExactCutting.j0 k l1 bt212.2.2 t223 bt226.2.2 (bt226.2.2 != bt212.2.2) a0_0 l0_1 bt212.1 bt212.2.1 bt218.1 bt218.2 bt226.1 bt226.2.1) else (laws_FnExactCutting.j0 k l1 bt212.2.2 t223 bt226.2.2 true a0_0 l0_1 bt212.1 bt212.2.1 bt218.1 bt218.2 bt226.1 bt226.2.1)))))))) = some r := H
   have A10 := Aside0.mk A100
   clear A100
   replace H := Option.bind_eq_some_iff.mp H
   obtain ⟨t209, A110, H⟩ := H
   replace H : ((spec_Cutting.f k t205 t206 t209).bind fun bt212 => ((laws_toNet.f k a0_0 l0_1).bind fun bt218 => ((laws_toInt64S.f k l1).bind fun t223 => ((impl_Cutting.f k bt218.1 bt218.2 t223).bind fun bt226 => ((laws_eqNet.f k bt226.1 bt226.2.1 bt212.1 bt212.2.1).bind fun t232 => (if t232 = true then (laws_FnExactCutting.j0 k l1 bt212.2.2 t223 bt226.2.2 (bt226.2.2 != bt212.2.2) a0_0 l0_1 bt212.1 bt212.2.1 bt218.1 bt218.2 bt226.1 bt226.2.1) else (laws_FnExactCutting.j0 k l1 bt212.2.2 t223 bt226.2.2 true a0_0 l0_1 bt212.1 bt212.2.1 bt218.1 bt218.2 bt226.1 bt226.2.1))))))) = some r := H
   have A11 := Aside0.mk A110
   clear A110
   replace H := Option.bind_eq_some_iff.mp H
   obtain ⟨⟨t212, t213, t216⟩, A120, H⟩ := H
   replace H : ((laws_toNet.f k a0_0 l0_1).bind fun bt218 => ((laws_toInt64S.f k l1).bind fun t223 => ((impl_Cutting.f k bt218.1 bt218.2 t223).bind fun bt226 => ((laws_eqNet.f k bt226.1 bt226.2.1 t212 t213).bind fun t232 => (if t232 = true then (laws_FnExactCutting.j0 k l1 t216 t223 bt226.2.2 (bt226.2.2 != t216) a0_0 l0_1 t212 t213 bt218.1 bt218.2 bt226.1 bt226.2.1) else (laws_FnExactCutting.j0 k l1 t216 t223 bt226.2.2 true a0_0 l0_1 t212 t213 bt218.1 bt218.2 bt226.1 bt226.2.1)))))) = some r := H
   have A12 := Aside0.mk A120
   clear A120
   replace H := Option.bind_eq_some_iff.mp H
   obtain ⟨⟨t218, t219⟩, A130, H⟩ := H
   replace H : ((laws_toInt64S.f k l1).bind fun t223 => ((impl_Cutting.f k t218 t219 t223).bind fun bt226 => ((laws_eqNet.f k bt226.1 bt226.2.1 t212 t213).bind fun t232 => (if t232 = true then (laws_FnExactCutting.j0 k l1 t216 t223 bt226.2.2 (bt226.2.2 != t216) a0_0 l0_1 t212 t213 t218 t219 bt226.1 bt226.2.1) else (laws_FnExactCutting.j0 k l1 t216 t223 bt226.2.2 true a0_0 l0_1 t212 t213 t218 t219 bt226.1 bt226.2.1))))) = some r := H
   have A13 := Aside0.mk A130
   clear A130
   replace H := Option.bind_eq_some_iff.mp H
   obtain ⟨t223, A140, H⟩ := H
   replace H : ((impl_Cutting.f k t218 t219 t223).bind fun bt226 => ((laws_eqNet.f k bt226.1 bt226.2.1 t212 t213).bind fun t232 => (if t232 = true then (laws_FnExactCutting.j0 k l1 t216 t223 bt226.2.2 (bt226.2.2 != t216) a0_0 l0_1 t212 t213 t218 t219 bt226.1 bt226.2.1) else (laws_FnExactCutting.j0 k l1 t216 t223 bt226.2.2 true a0_0 l0_1 t212 t213 t218 t219 bt226.1 bt226.2.1)))) = some r := H
   have A14 := Aside0.mk A140
   clear A140
   replace H := Option.bind_eq_some_iff.mp H
   obtain ⟨⟨t226, t227, t230⟩, A150, H⟩ := H
   replace H : ((laws_eqNet.f k t226 t227 t212 t213).bind fun t232 => (if t232 = true then (laws_FnExactCutting.j0 k l1 t216 t223 t230 (t230 != t216) a0_0 l0_1 t212 t213 t218 t219 t226 t227) else (laws_FnExactCutting.j0 k l1 t216 t223 t230 true a0_0 l0_1 t212 t213 t218 t219 t226 t227))) = some r := H
   have A15 := Aside0.mk A150
   clear A150
   have HC16 := Aside0.mk H
   clear H
   go_enter Try.func6, Try.ntmps6
   go_upto_region 11 with (first | ((with_reducible refine gate_dst (N := 2) rfl ?_); refine box_event ?hg (N := 2) ?hd (cs := #[.int .i64 a0_0, .slice A0_1 l0_1.length c0_1]) (t := 37) ?hr ?_; (case hd => rfl); (case hg => rfl); (case hr => first | (go_simp; done) | (go_simp; rfl)); intro gb203 hg w17 hbox hb; have n0_ := Aside0.mk (below_step (by repeat (first | (with_reducible first | exact HB.out | apply below_alloc | apply pw_below_drewN | apply below_drew1) | exact HB.out)) hb); have n1_ := Aside0.mk (hbox); have n2_ := Aside0.mk ((by rw [hg]; exact (below_size (by repeat (first | (with_reducible first | exact HB.out | apply below_alloc | apply pw_below_drewN | apply below_drew1) | exact HB.out))) : w.heap.size ≤ gb203)); have n3_ := Aside0.mk ((by rw [hg]; exact (below_size (by repeat (first | (with_reducible first | exact HB.out | apply below_alloc | apply pw_below_drewN | apply below_drew1) | exact HB.out))) : w.heap.size ≤ gb203)); clear HB; have HB := n0_; have BK203 := n1_; have GW203 := n2_; have GE203 := n3_; clear n0_ n1_ n2_ n3_; clear hb hbox hg; have hcz18_0 : w17.cell? ⟨gb203, 0, none⟩ = some (.int .i64 a0_0) := (blk_cell BK203.out 0).trans rfl; have hcz18_1 : w17.cell? ⟨gb203, 1, none⟩ = some (.slice A0_1 l0_1.length c0_1) := (blk_cell BK203.out 1).trans rfl; have hfz18_0 := blk_frozen BK203.out 0; have hfz18_1 := blk_frozen BK203.out 1) | ((with_reducible refine gate_callee (f := 17) rfl ?_); refine goesL_ (some 22) rfl rfl Try.func17 (by kernel_rfl) rfl #[.agg #[.int .i64 a0_0, .slice A0_1 l0_1.length c0_1], .int .i64 1048576] rfl (by (try simp only [List.map_toArray, List.map_cons, List.map_nil]); first | done | rfl | (simp only [List.length_drop, List.length_take]; rfl)) ?_; (with_reducible refine (laws_szNet.calls k a0_0 _ _ l0_1 1048576 t204 _ ?side1 ?side2 A5.out).mono ?_); (case side1 => repeat (first | exact (Kd.C_below HR0_1.out HB.out) | (with_reducible refine Kd.C_alloc ?_ _) | (with_reducible refine Kd.C_drewN ?_ _) | (with_reducible refine Kd.C_drew ?_))); (case side2 => exact HC0_1.out); rintro e w19 ⟨rfl, hb⟩; refine ⟨_, rfl, ?_⟩; have n0_ := Aside0.mk (blk_below (g := gb203) (o := .cells #[.int .i64 a0_0, .slice A0_1 l0_1.length c0_1] 37 (0, 0)) (by (with_reducible repeat (first | refine blk_drewN ?_ _ | refine blk_drew ?_ | refine blk_alloc ?_ _)); exact BK203.out) hb); have n1_ := Aside0.mk (below_step (by repeat (first | (with_reducible first | exact HB.out | apply below_alloc | apply pw_below_drewN | apply below_drew1 | refine below_set ?_ GE203.out) | exact HB.out)) hb); clear BK203; clear HB; have BK203 := n0_; have HB := n1_; clear n0_ n1_; (try clear hb); (try clear hb2); (try clear hk); (try clear hi); have hcz20_0 : w19.cell? ⟨gb203, 0, none⟩ = some (.int .i64 a0_0) := (blk_cell BK203.out 0).trans rfl; have hcz20_1 : w19.cell? ⟨gb203, 1, none⟩ = some (.slice A0_1 l0_1.length c0_1) := (blk_cell BK203.out 1).trans rfl; have hfz20_0 := blk_frozen BK203.out 0; have hfz20_1 := blk_frozen BK203.out 1) | ((with_reducible refine gate_callee (f := 19) rfl ?_); refine goesL_ (some 27) rfl rfl Try.func19 (by kernel_rfl) rfl #[.agg #[.int .i64 a0_0, .slice A0_1 l0_1.length c0_1]] rfl (by (try simp only [List.map_toArray, List.map_cons, List.map_nil]); first | done | rfl | (simp only [List.length_drop, List.length_take]; rfl)) ?_; (with_reducible refine (laws_toNet.calls k a0_0 _ _ l0_1 t205 t206 _ ?side1 ?side2 A10.out).mono ?_); (case side1 => repeat (first | exact (Kd.C_below HR0_1.out HB.out) | (with_reducible refine Kd.C_alloc ?_ _) | (with_reducible refine Kd.C_drewN ?_ _) | (with_reducible refine Kd.C_drew ?_))); (case side2 => exact HC0_1.out); rintro e w21 ⟨v207, rfl, ho0, hb⟩; refine ⟨_, rfl, ?_⟩; have n0_ := Aside0.mk (Kd.R_lower ho0 (below_size (by repeat (first | (with_reducible first | exact HB.out | apply below_alloc | apply pw_below_drewN | apply below_drew1 | refine below_set ?_ GE203.out) | exact HB.out)))); have n1_ := Aside0.mk (blk_below (g := gb203) (o := .cells #[.int .i64 a0_0, .slice A0_1 l0_1.length c0_1] 37 (0, 0)) (by (with_reducible repeat (first | refine blk_drewN ?_ _ | refine blk_drew ?_ | refine blk_alloc ?_ _)); exact BK203.out) hb); have n2_ := Aside0.mk (below_step (by repeat (first | (with_reducible first | exact HB.out | apply below_alloc | apply pw_below_drewN | apply below_drew1 | refine below_set ?_ GE203.out) | exact HB.out)) hb); clear BK203; clear HB; have HO208 := n0_; have BK203 := n1_; have HB := n2_; clear n0_ n1_ n2_; (try clear hb); (try clear hb2); (try clear hk); (try clear hi); (try clear ho0)) | ((with_reducible refine gate_callee (f := 30) rfl ?_); refine goesL_ (some 29) rfl rfl Try.func30 (by kernel_rfl) rfl #[.slice A1 l1.length c1] rfl (by (try simp only [List.map_toArray, List.map_cons, List.map_nil]); first | done | rfl | (simp only [List.length_drop, List.length_take]; rfl)) ?_; (with_reducible refine (laws_toInt64S.calls k _ _ l1 t209 _ ?side1 ?side2 A11.out).mono ?_); (case side1 => repeat (first | exact (Kd.C_below HR1.out HB.out) | (with_reducible refine Kd.C_alloc ?_ _) | (with_reducible refine Kd.C_drewN ?_ _) | (with_reducible refine Kd.C_drew ?_))); (case side2 => exact HC1.out); rintro e w22 ⟨v210, rfl, ho0, hb⟩; refine ⟨_, rfl, ?_⟩; have n0_ := Aside0.mk (Kd.R_below (by (with_reducible repeat (first | apply Kd.R_alloc | apply Kd.R_drewN | apply Kd.R_drew)); exact HO208.out) hb); have n1_ := Aside0.mk (Kd.R_lower ho0 (below_size (by repeat (first | (with_reducible first | exact HB.out | apply below_alloc | apply pw_below_drewN | apply below_drew1 | refine below_set ?_ GE203.out) | exact HB.out)))); have n2_ := Aside0.mk (blk_below (g := gb203) (o := .cells #[.int .i64 a0_0, .slice A0_1 l0_1.length c0_1] 37 (0, 0)) (by (with_reducible repeat (first | refine blk_drewN ?_ _ | refine blk_drew ?_ | refine blk_alloc ?_ _)); exact BK203.out) hb); have n3_ := Aside0.mk (below_step (by repeat (first | (with_reducible first | exact HB.out | apply below_alloc | apply pw_below_drewN | apply below_drew1 | refine below_set ?_ GE203.out) | exact HB.out)) hb); clear HO208; clear BK203; clear HB; have HO208 := n0_; have HO211 := n1_; have BK203 := n2_; have HB := n3_; clear n0_ n1_ n2_ n3_; (try clear hb); (try clear hb2); (try clear hk); (try clear hi); (try clear ho0); obtain ⟨Ao23, co23, eo23⟩ := Kd.R_slice HO208.out; subst eo23; obtain ⟨Ao24, co24, eo24⟩ := Kd.R_slice HO211.out; subst eo24) | ((with_reducible refine gate_callee (f := 14) rfl ?_); refine goesL_ (some 30) rfl rfl Try.func14 (by kernel_rfl) rfl #[.agg #[.int .i64 t205, .slice Ao23 t206.length co23], .slice Ao24 t209.length co24] rfl (by (try simp only [List.map_toArray, List.map_cons, List.map_nil]); first | done | rfl | (simp only [List.length_drop, List.length_take]; rfl)) ?_; (with_reducible refine (spec_Cutting.calls k t205 _ _ t206 _ _ t209 t212 t213 t216 _ ?side1 ?side2 ?side3 ?side4 A12.out).mono ?_); (case side1 => repeat (first | exact (Kd.R_reads' HO208.out).2.2 | (with_reducible refine Kd.C_alloc ?_ _) | (with_reducible refine Kd.C_drewN ?_ _) | (with_reducible refine Kd.C_drew ?_))); (case side2 => exact (Kd.R_reads' HO208.out).2.1); (case side3 => repeat (first | exact (Kd.R_reads' HO211.out).2.2 | (with_reducible refine Kd.C_alloc ?_ _) | (with_reducible refine Kd.C_drewN ?_ _) | (with_reducible refine Kd.C_drew ?_))); (case side4 => exact (Kd.R_reads' HO211.out).2.1); rintro e w25 ⟨v214, rfl, ho0, hb⟩; refine ⟨_, rfl, ?_⟩; have n0_ := Aside0.mk (Kd.R_elder' (by (with_reducible repeat (first | apply Kd.R_alloc | apply Kd.R_drewN | apply Kd.R_drew)); exact HO208.out) (Kd.R_base ho0) hb); have n1_ := Aside0.mk (Kd.R_below (by (with_reducible repeat (first | apply Kd.R_alloc | apply Kd.R_drewN | apply Kd.R_drew)); exact HO211.out) hb); have n2_ := Aside0.mk (Kd.R_lower (Kd.R_new' ho0 (Kd.R_lt (by (with_reducible repeat (first | apply Kd.R_alloc | apply Kd.R_drewN | apply Kd.R_drew)); exact HO208.out))) (below_size (by repeat (first | (with_reducible first | exact HB.out | apply below_alloc | apply pw_below_drewN | apply below_drew1 | refine below_set ?_ GE203.out) | exact HB.out)))); have n3_ := Aside0.mk (blk_below (g := gb203) (o := .cells #[.int .i64 a0_0, .slice A0_1 l0_1.length c0_1] 37 (0, 0)) (by (with_reducible repeat (first | refine blk_drewN ?_ _ | refine blk_drew ?_ | refine blk_alloc ?_ _)); exact BK203.out) hb); have n4_ := Aside0.mk (below_step (by repeat (first | (with_reducible first | exact HB.out | apply below_alloc | apply pw_below_drewN | apply below_drew1 | refine below_set ?_ GE203.out) | exact HB.out)) hb); clear HO208; clear HO211; clear BK203; clear HB; have HO208 := n0_; have HO211 := n1_; have HO215 := n2_; have BK203 := n3_; have HB := n4_; clear n0_ n1_ n2_ n3_ n4_; (try clear hb); (try clear hb2); (try clear hk); (try clear hi); (try clear ho0)) | ((with_reducible refine gate_dst (N := 6) rfl ?_); refine box_event ?hg (N := 6) ?hd (cs := #[.int .i64 0, .slice none 0 0]) (t := 26) ?hr ?_; (case hd => rfl); (case hg => rfl); (case hr => first | (go_simp; done) | (go_simp; rfl)); intro gb217 hg w26 hbox hb; have n0_ := Aside0.mk (Kd.R_below (by (with_reducible repeat (first | apply Kd.R_alloc | apply Kd.R_drewN | apply Kd.R_drew)); exact HO208.out) hb); have n1_ := Aside0.mk (Kd.R_below (by (with_reducible repeat (first | apply Kd.R_alloc | apply Kd.R_drewN | apply Kd.R_drew)); exact HO211.out) hb); have n2_ := Aside0.mk (Kd.R_below (by (with_reducible repeat (first | apply Kd.R_alloc | apply Kd.R_drewN | apply Kd.R_drew)); exact HO215.out) hb); have n3_ := Aside0.mk (blk_below (g := gb203) (o := .cells #[.int .i64 a0_0, .slice A0_1 l0_1.length c0_1] 37 (0, 0)) (by (with_reducible repeat (first | refine blk_drewN ?_ _ | refine blk_drew ?_ | refine blk_alloc ?_ _)); exact BK203.out) hb); have n4_ := Aside0.mk (below_step (by repeat (first | (with_reducible first | exact HB.out | apply below_alloc | apply pw_below_drewN | apply below_drew1 | refine below_set ?_ GE203.out) | exact HB.out)) hb); have n5_ := Aside0.mk (hbox); have n6_ := Aside0.mk ((by rw [hg]; exact (below_size (by repeat (first | (with_reducible first | exact HB.out | apply below_alloc | apply pw_below_drewN | apply below_drew1 | refine below_set ?_ GE203.out) | exact HB.out))) : w.heap.size ≤ gb217)); have n7_ := Aside0.mk ((by rw [hg]; exact (below_size (by repeat (first | (with_reducible first | exact HB.out | apply below_alloc | apply pw_below_drewN | apply below_drew1 | refine below_set ?_ GE203.out) | exact HB.out))) : w.heap.size ≤ gb217)); have n8_ := Aside0.mk ((by rw [hg]; exact Nat.ne_of_lt (blk_lt (g := gb203) (o := .cells #[.int .i64 a0_0, .slice A0_1 l0_1.length c0_1] 37 (0, 0)) (by (with_reducible repeat (first | refine blk_drewN ?_ _ | refine blk_drew ?_ | refine blk_alloc ?_ _)); exact BK203.out)) : gb203 ≠ gb217)); have n9_ := Aside0.mk ((by rw [hg]; exact Nat.ne_of_gt (blk_lt (g := gb203) (o := .cells #[.int .i64 a0_0, .slice A0_1 l0_1.length c0_1] 37 (0, 0)) (by (with_reducible repeat (first | refine blk_drewN ?_ _ | refine blk_drew ?_ | refine blk_alloc ?_ _)); exact BK203.out)) : gb217 ≠ gb203)); clear HO208; clear HO211; clear HO215; clear BK203; clear HB; have HO208 := n0_; have HO211 := n1_; have HO215 := n2_; have BK203 := n3_; have HB := n4_; have BK217 := n5_; have GW217 := n6_; have GE217 := n7_; have NB203_217 := n8_; have NB217_203 := n9_; clear n0_ n1_ n2_ n3_ n4_ n5_ n6_ n7_ n8_ n9_; clear hb hbox hg; have hnb27 := NB217_203.out; have hnc27 := NB203_217.out; have hcz28_0 : w26.cell? ⟨gb217, 0, none⟩ = some (.int .i64 0) := (blk_cell BK217.out 0).trans rfl; have hcz28_1 : w26.cell? ⟨gb217, 1, none⟩ = some (.slice none 0 0) := (blk_cell BK217.out 1).trans rfl; have hfz28_0 := blk_frozen BK217.out 0; have hfz28_1 := blk_frozen BK217.out 1; obtain ⟨Ao29, co29, eo29⟩ := Kd.R_slice HO215.out; subst eo29; have hcz30_0 : w26.cell? ⟨gb203, 0, none⟩ = some (.int .i64 a0_0) := (blk_cell BK203.out 0).trans rfl; have hcz30_1 : w26.cell? ⟨gb203, 1, none⟩ = some (.slice A0_1 l0_1.length c0_1) := (blk_cell BK203.out 1).trans rfl; have hfz30_0 := blk_frozen BK203.out 0; have hfz30_1 := blk_frozen BK203.out 1) | ((with_reducible refine gate_callee (f := 19) rfl ?_); refine goesL_ (some 34) rfl rfl Try.func19 (by kernel_rfl) rfl #[.agg #[.int .i64 a0_0, .slice A0_1 l0_1.length c0_1]] rfl (by (try simp only [List.map_toArray, List.map_cons, List.map_nil]); first | done | rfl | (simp only [List.length_drop, List.length_take]; rfl)) ?_; (with_reducible refine (laws_toNet.calls k a0_0 _ _ l0_1 t218 t219 _ ?side1 ?side2 A13.out).mono ?_); (case side1 => exact Kd.C_below HR0_1.out (by repeat (first | (with_reducible first | exact HB.out | apply below_alloc | apply pw_below_drewN | apply below_drew1 | refine below_set ?_ GE203.out | refine below_set ?_ GE217.out) | exact HB.out))); (case side2 => exact HC0_1.out); rintro e w31 ⟨v220, rfl, ho0, hb⟩; refine ⟨_, rfl, ?_⟩; have n0_ := Aside0.mk (Kd.R_elder' (by (with_reducible repeat (first | apply Kd.R_alloc | apply Kd.R_drewN | apply Kd.R_drew)); exact (Kd.R_mono (Kd.R_far (p := ⟨gb217, 1, none⟩) (Kd.R_far (p := ⟨gb217, 0, none⟩) (Kd.R_types HO208.out BK217.out (by decide)) (fun _ hk => hk.2) (.int .i64 t212)) (fun _ hk => hk.2) (.slice Ao29 t213.length co29)) (fun _ h_ => h_.1))) (Kd.R_base ho0) hb); have n1_ := Aside0.mk (Kd.R_below (by (with_reducible repeat (first | apply Kd.R_alloc | apply Kd.R_drewN | apply Kd.R_drew)); exact (Kd.R_mono (Kd.R_far (p := ⟨gb217, 1, none⟩) (Kd.R_far (p := ⟨gb217, 0, none⟩) (Kd.R_types HO211.out BK217.out (by decide)) (fun _ hk => hk.2) (.int .i64 t212)) (fun _ hk => hk.2) (.slice Ao29 t213.length co29)) (fun _ h_ => h_.1))) hb); have n2_ := Aside0.mk (Kd.R_elder' (by (with_reducible repeat (first | apply Kd.R_alloc | apply Kd.R_drewN | apply Kd.R_drew)); exact (Kd.R_mono (Kd.R_far (p := ⟨gb217, 1, none⟩) (Kd.R_far (p := ⟨gb217, 0, none⟩) (Kd.R_types HO215.out BK217.out (by decide)) (fun _ hk => hk.2) (.int .i64 t212)) (fun _ hk => hk.2) (.slice Ao29 t213.length co29)) (fun _ h_ => h_.1))) (Kd.R_base ho0) hb); have n3_ := Aside0.mk (Kd.R_lower (Kd.R_new' (Kd.R_new' ho0 (Kd.R_lt (by (with_reducible repeat (first | apply Kd.R_alloc | apply Kd.R_drewN | apply Kd.R_drew)); exact (Kd.R_mono (Kd.R_far (p := ⟨gb217, 1, none⟩) (Kd.R_far (p := ⟨gb217, 0, none⟩) (Kd.R_types HO208.out BK217.out (by decide)) (fun _ hk => hk.2) (.int .i64 t212)) (fun _ hk => hk.2) (.slice Ao29 t213.length co29)) (fun _ h_ => h_.1))))) (Kd.R_lt (by (with_reducible repeat (first | apply Kd.R_alloc | apply Kd.R_drewN | apply Kd.R_drew)); exact (Kd.R_mono (Kd.R_far (p := ⟨gb217, 1, none⟩) (Kd.R_far (p := ⟨gb217, 0, none⟩) (Kd.R_types HO215.out BK217.out (by decide)) (fun _ hk => hk.2) (.int .i64 t212)) (fun _ hk => hk.2) (.slice Ao29 t213.length co29)) (fun _ h_ => h_.1))))) (below_size (by repeat (first | (with_reducible first | exact HB.out | apply below_alloc | apply pw_below_drewN | apply below_drew1 | refine below_set ?_ GE203.out | refine below_set ?_ GE217.out) | exact HB.out)))); have n4_ := Aside0.mk (blk_below (g := gb203) (o := .cells #[.int .i64 a0_0, .slice A0_1 l0_1.length c0_1] 37 (0, 0)) (by (with_reducible repeat (first | refine blk_drewN ?_ _ | refine blk_drew ?_ | refine blk_alloc ?_ _)); refine blk_far ?_ NB203_217.out _; (with_reducible repeat (first | refine blk_drewN ?_ _ | refine blk_drew ?_ | refine blk_alloc ?_ _)); refine blk_far ?_ NB203_217.out _; (with_reducible repeat (first | refine blk_drewN ?_ _ | refine blk_drew ?_ | refine blk_alloc ?_ _)); exact BK203.out) hb); have n5_ := Aside0.mk (blk_below (g := gb217) (o := .cells #[.int .i64 t212, .slice Ao29 t213.length co29] 26 (0, 0)) (by (with_reducible repeat (first | refine blk_drewN ?_ _ | refine blk_drew ?_ | refine blk_alloc ?_ _)); refine blk_put (cs := #[.int .i64 t212, .slice none 0 0]) ?_ 1 _ rfl; (with_reducible repeat (first | refine blk_drewN ?_ _ | refine blk_drew ?_ | refine blk_alloc ?_ _)); refine blk_put (cs := #[.int .i64 0, .slice none 0 0]) ?_ 0 _ rfl; (with_reducible repeat (first | refine blk_drewN ?_ _ | refine blk_drew ?_ | refine blk_alloc ?_ _)); exact BK217.out) hb); have n6_ := Aside0.mk (below_step (by repeat (first | (with_reducible first | exact HB.out | apply below_alloc | apply pw_below_drewN | apply below_drew1 | refine below_set ?_ GE203.out | refine below_set ?_ GE217.out) | exact HB.out)) hb); clear HO208; clear HO211; clear HO215; clear BK203; clear BK217; clear HB; have HO208 := n0_; have HO211 := n1_; have HO215 := n2_; have HO221 := n3_; have BK203 := n4_; have BK217 := n5_; have HB := n6_; clear n0_ n1_ n2_ n3_ n4_ n5_ n6_; (try clear hb); (try clear hb2); (try clear hk); (try clear hi); (try clear ho0)) | ((with_reducible refine gate_dst (N := 8) rfl ?_); refine box_event ?hg (N := 8) ?hd (cs := #[.int .i64 0, .slice none 0 0]) (t := 26) ?hr ?_; (case hd => rfl); (case hg => rfl); (case hr => first | (go_simp; done) | (go_simp; rfl)); intro gb222 hg w32 hbox hb; have n0_ := Aside0.mk (Kd.R_below (by (with_reducible repeat (first | apply Kd.R_alloc | apply Kd.R_drewN | apply Kd.R_drew)); exact HO208.out) hb); have n1_ := Aside0.mk (Kd.R_below (by (with_reducible repeat (first | apply Kd.R_alloc | apply Kd.R_drewN | apply Kd.R_drew)); exact HO211.out) hb); have n2_ := Aside0.mk (Kd.R_below (by (with_reducible repeat (first | apply Kd.R_alloc | apply Kd.R_drewN | apply Kd.R_drew)); exact HO215.out) hb); have n3_ := Aside0.mk (Kd.R_below (by (with_reducible repeat (first | apply Kd.R_alloc | apply Kd.R_drewN | apply Kd.R_drew)); exact HO221.out) hb); have n4_ := Aside0.mk (blk_below (g := gb203) (o := .cells #[.int .i64 a0_0, .slice A0_1 l0_1.length c0_1] 37 (0, 0)) (by (with_reducible repeat (first | refine blk_drewN ?_ _ | refine blk_drew ?_ | refine blk_alloc ?_ _)); exact BK203.out) hb); have n5_ := Aside0.mk (blk_below (g := gb217) (o := .cells #[.int .i64 t212, .slice Ao29 t213.length co29] 26 (0, 0)) (by (with_reducible repeat (first | refine blk_drewN ?_ _ | refine blk_drew ?_ | refine blk_alloc ?_ _)); exact BK217.out) hb); have n6_ := Aside0.mk (below_step (by repeat (first | (with_reducible first | exact HB.out | apply below_alloc | apply pw_below_drewN | apply below_drew1 | refine below_set ?_ GE203.out | refine below_set ?_ GE217.out) | exact HB.out)) hb); have n7_ := Aside0.mk (hbox); have n8_ := Aside0.mk ((by rw [hg]; exact (below_size (by repeat (first | (with_reducible first | exact HB.out | apply below_alloc | apply pw_below_drewN | apply below_drew1 | refine below_set ?_ GE203.out | refine below_set ?_ GE217.out) | exact HB.out))) : w.heap.size ≤ gb222)); have n9_ := Aside0.mk ((by rw [hg]; exact (below_size (by repeat (first | (with_reducible first | exact HB.out | apply below_alloc | apply pw_below_drewN | apply below_drew1 | refine below_set ?_ GE203.out | refine below_set ?_ GE217.out) | exact HB.out))) : w.heap.size ≤ gb222)); have n10_ := Aside0.mk ((by rw [hg]; exact Nat.ne_of_lt (blk_lt (g := gb203) (o := .cells #[.int .i64 a0_0, .slice A0_1 l0_1.length c0_1] 37 (0, 0)) (by (with_reducible repeat (first | refine blk_drewN ?_ _ | refine blk_drew ?_ | refine blk_alloc ?_ _)); exact BK203.out)) : gb203 ≠ gb222)); have n11_ := Aside0.mk ((by rw [hg]; exact Nat.ne_of_gt (blk_lt (g := gb203) (o := .cells #[.int .i64 a0_0, .slice A0_1 l0_1.length c0_1] 37 (0, 0)) (by (with_reducible repeat (first | refine blk_drewN ?_ _ | refine blk_drew ?_ | refine blk_alloc ?_ _)); exact BK203.out)) : gb222 ≠ gb203)); have n12_ := Aside0.mk ((by rw [hg]; exact Nat.ne_of_lt (blk_lt (g := gb217) (o := .cells #[.int .i64 t212, .slice Ao29 t213.length co29] 26 (0, 0)) (by (with_reducible repeat (first | refine blk_drewN ?_ _ | refine blk_drew ?_ | refine blk_alloc ?_ _)); exact BK217.out)) : gb217 ≠ gb222)); have n13_ := Aside0.mk ((by rw [hg]; exact Nat.ne_of_gt (blk_lt (g := gb217) (o := .cells #[.int .i64 t212, .slice Ao29 t213.length co29] 26 (0, 0)) (by (with_reducible repeat (first | refine blk_drewN ?_ _ | refine blk_drew ?_ | refine blk_alloc ?_ _)); exact BK217.out)) : gb222 ≠ gb217)); clear HO208; clear HO211; clear HO215; clear HO221; clear BK203; clear BK217; clear HB; have HO208 := n0_; have HO211 := n1_; have HO215 := n2_; have HO221 := n3_; have BK203 := n4_; have BK217 := n5_; have HB := n6_; have BK222 := n7_; have GW222 := n8_; have GE222 := n9_; have NB203_222 := n10_; have NB222_203 := n11_; have NB217_222 := n12_; have NB222_217 := n13_; clear n0_ n1_ n2_ n3_ n4_ n5_ n6_ n7_ n8_ n9_ n10_ n11_ n12_ n13_; clear hb hbox hg; have hnb33 := NB222_203.out; have hnc33 := NB203_222.out; have hnb34 := NB222_217.out; have hnc34 := NB217_222.out; have hcz35_0 : w32.cell? ⟨gb222, 0, none⟩ = some (.int .i64 0) := (blk_cell BK222.out 0).trans rfl; have hcz35_1 : w32.cell? ⟨gb222, 1, none⟩ = some (.slice none 0 0) := (blk_cell BK222.out 1).trans rfl; have hfz35_0 := blk_frozen BK222.out 0; have hfz35_1 := blk_frozen BK222.out 1; obtain ⟨Ao36, co36, eo36⟩ := Kd.R_slice HO221.out; subst eo36) | ((with_reducible refine gate_callee (f := 30) rfl ?_); refine goesL_ (some 36) rfl rfl Try.func30 (by kernel_rfl) rfl #[.slice A1 l1.length c1] rfl (by (try simp only [List.map_toArray, List.map_cons, List.map_nil]); first | done | rfl | (simp only [List.length_drop, List.length_take]; rfl)) ?_; (with_reducible refine (laws_toInt64S.calls k _ _ l1 t223 _ ?side1 ?side2 A14.out).mono ?_); (case side1 => exact Kd.C_below HR1.out (by repeat (first | (with_reducible first | exact HB.out | apply below_alloc | apply pw_below_drewN | apply below_drew1 | refine below_set ?_ GE203.out | refine below_set ?_ GE217.out | refine below_set ?_ GE222.out) | exact HB.out))); (case side2 => exact HC1.out); rintro e w37 ⟨v224, rfl, ho0, hb⟩; refine ⟨_, rfl, ?_⟩; have n0_ := Aside0.mk (Kd.R_below (by (with_reducible repeat (first | apply Kd.R_alloc | apply Kd.R_drewN | apply Kd.R_drew)); exact (Kd.R_mono (Kd.R_far (p := ⟨gb222, 1, none⟩) (Kd.R_far (p := ⟨gb222, 0, none⟩) (Kd.R_types HO208.out BK222.out (by decide)) (fun _ hk => hk.2) (.int .i64 t218)) (fun _ hk => hk.2) (.slice Ao36 t219.length co36)) (fun _ h_ => h_.1))) hb); have n1_ := Aside0.mk (Kd.R_elder' (by (with_reducible repeat (first | apply Kd.R_alloc | apply Kd.R_drewN | apply Kd.R_drew)); exact (Kd.R_mono (Kd.R_far (p := ⟨gb222, 1, none⟩) (Kd.R_far (p := ⟨gb222, 0, none⟩) (Kd.R_types HO211.out BK222.out (by decide)) (fun _ hk => hk.2) (.int .i64 t218)) (fun _ hk => hk.2) (.slice Ao36 t219.length co36)) (fun _ h_ => h_.1))) (Kd.R_base ho0) hb); have n2_ := Aside0.mk (Kd.R_below (by (with_reducible repeat (first | apply Kd.R_alloc | apply Kd.R_drewN | apply Kd.R_drew)); exact (Kd.R_mono (Kd.R_far (p := ⟨gb222, 1, none⟩) (Kd.R_far (p := ⟨gb222, 0, none⟩) (Kd.R_types HO215.out BK222.out (by decide)) (fun _ hk => hk.2) (.int .i64 t218)) (fun _ hk => hk.2) (.slice Ao36 t219.length co36)) (fun _ h_ => h_.1))) hb); have n3_ := Aside0.mk (Kd.R_below (by (with_reducible repeat (first | apply Kd.R_alloc | apply Kd.R_drewN | apply Kd.R_drew)); exact (Kd.R_mono (Kd.R_far (p := ⟨gb222, 1, none⟩) (Kd.R_far (p := ⟨gb222, 0, none⟩) (Kd.R_types HO221.out BK222.out (by decide)) (fun _ hk => hk.2) (.int .i64 t218)) (fun _ hk => hk.2) (.slice Ao36 t219.length co36)) (fun _ h_ => h_.1))) hb); have n4_ := Aside0.mk (Kd.R_lower (Kd.R_new' ho0 (Kd.R_lt (by (with_reducible repeat (first | apply Kd.R_alloc | apply Kd.R_drewN | apply Kd.R_drew)); exact (Kd.R_mono (Kd.R_far (p := ⟨gb222, 1, none⟩) (Kd.R_far (p := ⟨gb222, 0, none⟩) (Kd.R_types HO211.out BK222.out (by decide)) (fun _ hk => hk.2) (.int .i64 t218)) (fun _ hk => hk.2) (.slice Ao36 t219.length co36)) (fun _ h_ => h_.1))))) (below_size (by repeat (first | (with_reducible first | exact HB.out | apply below_alloc | apply pw_below_drewN | apply below_drew1 | refine below_set ?_ GE203.out | refine below_set ?_ GE217.out | refine below_set ?_ GE222.out) | exact HB.out)))); have n5_ := Aside0.mk (blk_below (g := gb203) (o := .cells #[.int .i64 a0_0, .slice A0_1 l0_1.length c0_1] 37 (0, 0)) (by (with_reducible repeat (first | refine blk_drewN ?_ _ | refine blk_drew ?_ | refine blk_alloc ?_ _)); refine blk_far ?_ NB203_222.out _; (with_reducible repeat (first | refine blk_drewN ?_ _ | refine blk_drew ?_ | refine blk_alloc ?_ _)); refine blk_far ?_ NB203_222.out _; (with_reducible repeat (first | refine blk_drewN ?_ _ | refine blk_drew ?_ | refine blk_alloc ?_ _)); exact BK203.out) hb); have n6_ := Aside0.mk (blk_below (g := gb217) (o := .cells #[.int .i64 t212, .slice Ao29 t213.length co29] 26 (0, 0)) (by (with_reducible repeat (first | refine blk_drewN ?_ _ | refine blk_drew ?_ | refine blk_alloc ?_ _)); refine blk_far ?_ NB217_222.out _; (with_reducible repeat (first | refine blk_drewN ?_ _ | refine blk_drew ?_ | refine blk_alloc ?_ _)); refine blk_far ?_ NB217_222.out _; (with_reducible repeat (first | refine blk_drewN ?_ _ | refine blk_drew ?_ | refine blk_alloc ?_ _)); exact BK217.out) hb); have n7_ := Aside0.mk (blk_below (g := gb222) (o := .cells #[.int .i64 t218, .slice Ao36 t219.length co36] 26 (0, 0)) (by (with_reducible repeat (first | refine blk_drewN ?_ _ | refine blk_drew ?_ | refine blk_alloc ?_ _)); refine blk_put (cs := #[.int .i64 t218, .slice none 0 0]) ?_ 1 _ rfl; (with_reducible repeat (first | refine blk_drewN ?_ _ | refine blk_drew ?_ | refine blk_alloc ?_ _)); refine blk_put (cs := #[.int .i64 0, .slice none 0 0]) ?_ 0 _ rfl; (with_reducible repeat (first | refine blk_drewN ?_ _ | refine blk_drew ?_ | refine blk_alloc ?_ _)); exact BK222.out) hb); have n8_ := Aside0.mk (below_step (by repeat (first | (with_reducible first | exact HB.out | apply below_alloc | apply pw_below_drewN | apply below_drew1 | refine below_set ?_ GE203.out | refine below_set ?_ GE217.out | refine below_set ?_ GE222.out) | exact HB.out)) hb); clear HO208; clear HO211; clear HO215; clear HO221; clear BK203; clear BK217; clear BK222; clear HB; have HO208 := n0_; have HO211 := n1_; have HO215 := n2_; have HO221 := n3_; have HO225 := n4_; have BK203 := n5_; have BK217 := n6_; have BK222 := n7_; have HB := n8_; clear n0_ n1_ n2_ n3_ n4_ n5_ n6_ n7_ n8_; (try clear hb); (try clear hb2); (try clear hk); (try clear hi); (try clear ho0); have hcz38_0 : w37.cell? ⟨gb222, 0, none⟩ = some (.int .i64 t218) := (blk_cell BK222.out 0).trans rfl; have hcz38_1 : w37.cell? ⟨gb222, 1, none⟩ = some (.slice Ao36 t219.length co36) := (blk_cell BK222.out 1).trans rfl; have hfz38_0 := blk_frozen BK222.out 0; have hfz38_1 := blk_frozen BK222.out 1; obtain ⟨Ao39, co39, eo39⟩ := Kd.R_slice HO225.out; subst eo39) | ((with_reducible refine gate_callee (f := 15) rfl ?_); refine goesL_ (some 40) rfl rfl Try.func15 (by kernel_rfl) rfl #[.agg #[.int .i64 t218, .slice Ao36 t219.length co36], .slice Ao39 t223.length co39] rfl (by (try simp only [List.map_toArray, List.map_cons, List.map_nil]); first | done | rfl | (simp only [List.length_drop, List.length_take]; rfl)) ?_; (with_reducible refine (impl_Cutting.calls k t218 _ _ t219 _ _ t223 t226 t227 t230 _ ?side1 ?side2 ?side3 ?side4 A15.out).mono ?_); (case side1 => repeat (first | exact (Kd.R_reads' HO221.out).2.2 | (with_reducible refine Kd.C_alloc ?_ _) | (with_reducible refine Kd.C_drewN ?_ _) | (with_reducible refine Kd.C_drew ?_))); (case side2 => exact (Kd.R_reads' HO221.out).2.1); (case side3 => repeat (first | exact (Kd.R_reads' HO225.out).2.2 | (with_reducible refine Kd.C_alloc ?_ _) | (with_reducible refine Kd.C_drewN ?_ _) | (with_reducible refine Kd.C_drew ?_))); (case side4 => exact (Kd.R_reads' HO225.out).2.1); rintro e w40 ⟨v228, rfl, ho0, hb⟩; refine ⟨_, rfl, ?_⟩; have n0_ := Aside0.mk (Kd.R_elder' (by (with_reducible repeat (first | apply Kd.R_alloc | apply Kd.R_drewN | apply Kd.R_drew)); exact HO208.out) (Kd.R_base ho0) hb); have n1_ := Aside0.mk (Kd.R_below (by (with_reducible repeat (first | apply Kd.R_alloc | apply Kd.R_drewN | apply Kd.R_drew)); exact HO211.out) hb); have n2_ := Aside0.mk (Kd.R_elder' (by (with_reducible repeat (first | apply Kd.R_alloc | apply Kd.R_drewN | apply Kd.R_drew)); exact HO215.out) (Kd.R_base ho0) hb); have n3_ := Aside0.mk (Kd.R_elder' (by (with_reducible repeat (first | apply Kd.R_alloc | apply Kd.R_drewN | apply Kd.R_drew)); exact HO221.out) (Kd.R_base ho0) hb); have n4_ := Aside0.mk (Kd.R_below (by (with_reducible repeat (first | apply Kd.R_alloc | apply Kd.R_drewN | apply Kd.R_drew)); exact HO225.out) hb); have n5_ := Aside0.mk (Kd.R_lower (Kd.R_new' (Kd.R_new' (Kd.R_new' ho0 (Kd.R_lt (by (with_reducible repeat (first | apply Kd.R_alloc | apply Kd.R_drewN | apply Kd.R_drew)); exact HO208.out))) (Kd.R_lt (by (with_reducible repeat (first | apply Kd.R_alloc | apply Kd.R_drewN | apply Kd.R_drew)); exact HO215.out))) (Kd.R_lt (by (with_reducible repeat (first | apply Kd.R_alloc | apply Kd.R_drewN | apply Kd.R_drew)); exact HO221.out))) (below_size (by repeat (first | (with_reducible first | exact HB.out | apply below_alloc | apply pw_below_drewN | apply below_drew1 | refine below_set ?_ GE203.out | refine below_set ?_ GE217.out | refine below_set ?_ GE222.out) | exact HB.out)))); have n6_ := Aside0.mk (blk_below (g := gb203) (o := .cells #[.int .i64 a0_0, .slice A0_1 l0_1.length c0_1] 37 (0, 0)) (by (with_reducible repeat (first | refine blk_drewN ?_ _ | refine blk_drew ?_ | refine blk_alloc ?_ _)); exact BK203.out) hb); have n7_ := Aside0.mk (blk_below (g := gb217) (o := .cells #[.int .i64 t212, .slice Ao29 t213.length co29] 26 (0, 0)) (by (with_reducible repeat (first | refine blk_drewN ?_ _ | refine blk_drew ?_ | refine blk_alloc ?_ _)); exact BK217.out) hb); have n8_ := Aside0.mk (blk_below (g := gb222) (o := .cells #[.int .i64 t218, .slice Ao36 t219.length co36] 26 (0, 0)) (by (with_reducible repeat (first | refine blk_drewN ?_ _ | refine blk_drew ?_ | refine blk_alloc ?_ _)); exact BK222.out) hb); have n9_ := Aside0.mk (below_step (by repeat (first | (with_reducible first | exact HB.out | apply below_alloc | apply pw_below_drewN | apply below_drew1 | refine below_set ?_ GE203.out | refine below_set ?_ GE217.out | refine below_set ?_ GE222.out) | exact HB.out)) hb); clear HO208; clear HO211; clear HO215; clear HO221; clear HO225; clear BK203; clear BK217; clear BK222; clear HB; have HO208 := n0_; have HO211 := n1_; have HO215 := n2_; have HO221 := n3_; have HO225 := n4_; have HO229 := n5_; have BK203 := n6_; have BK217 := n7_; have BK222 := n8_; have HB := n9_; clear n0_ n1_ n2_ n3_ n4_ n5_ n6_ n7_ n8_ n9_; (try clear hb); (try clear hb2); (try clear hk); (try clear hi); (try clear ho0)) | ((with_reducible refine gate_dst (N := 10) rfl ?_); refine box_event ?hg (N := 10) ?hd (cs := #[.int .i64 0, .slice none 0 0]) (t := 26) ?hr ?_; (case hd => rfl); (case hg => rfl); (case hr => first | (go_simp; done) | (go_simp; rfl)); intro gb231 hg w41 hbox hb; have n0_ := Aside0.mk (Kd.R_below (by (with_reducible repeat (first | apply Kd.R_alloc | apply Kd.R_drewN | apply Kd.R_drew)); exact HO208.out) hb); have n1_ := Aside0.mk (Kd.R_below (by (with_reducible repeat (first | apply Kd.R_alloc | apply Kd.R_drewN | apply Kd.R_drew)); exact HO211.out) hb); have n2_ := Aside0.mk (Kd.R_below (by (with_reducible repeat (first | apply Kd.R_alloc | apply Kd.R_drewN | apply Kd.R_drew)); exact HO215.out) hb); have n3_ := Aside0.mk (Kd.R_below (by (with_reducible repeat (first | apply Kd.R_alloc | apply Kd.R_drewN | apply Kd.R_drew)); exact HO221.out) hb); have n4_ := Aside0.mk (Kd.R_below (by (with_reducible repeat (first | apply Kd.R_alloc | apply Kd.R_drewN | apply Kd.R_drew)); exact HO225.out) hb); have n5_ := Aside0.mk (Kd.R_below (by (with_reducible repeat (first | apply Kd.R_alloc | apply Kd.R_drewN | apply Kd.R_drew)); exact HO229.out) hb); have n6_ := Aside0.mk (blk_below (g := gb203) (o := .cells #[.int .i64 a0_0, .slice A0_1 l0_1.length c0_1] 37 (0, 0)) (by (with_reducible repeat (first | refine blk_drewN ?_ _ | refine blk_drew ?_ | refine blk_alloc ?_ _)); exact BK203.out) hb); have n7_ := Aside0.mk (blk_below (g := gb217) (o := .cells #[.int .i64 t212, .slice Ao29 t213.length co29] 26 (0, 0)) (by (with_reducible repeat (first | refine blk_drewN ?_ _ | refine blk_drew ?_ | refine blk_alloc ?_ _)); exact BK217.out) hb); have n8_ := Aside0.mk (blk_below (g := gb222) (o := .cells #[.int .i64 t218, .slice Ao36 t219.length co36] 26 (0, 0)) (by (with_reducible repeat (first | refine blk_drewN ?_ _ | refine blk_drew ?_ | refine blk_alloc ?_ _)); exact BK222.out) hb); have n9_ := Aside0.mk (below_step (by repeat (first | (with_reducible first | exact HB.out | apply below_alloc | apply pw_below_drewN | apply below_drew1 | refine below_set ?_ GE203.out | refine below_set ?_ GE217.out | refine below_set ?_ GE222.out) | exact HB.out)) hb); have n10_ := Aside0.mk (hbox); have n11_ := Aside0.mk ((by rw [hg]; exact (below_size (by repeat (first | (with_reducible first | exact HB.out | apply below_alloc | apply pw_below_drewN | apply below_drew1 | refine below_set ?_ GE203.out | refine below_set ?_ GE217.out | refine below_set ?_ GE222.out) | exact HB.out))) : w.heap.size ≤ gb231)); have n12_ := Aside0.mk ((by rw [hg]; exact (below_size (by repeat (first | (with_reducible first | exact HB.out | apply below_alloc | apply pw_below_drewN | apply below_drew1 | refine below_set ?_ GE203.out | refine below_set ?_ GE217.out | refine below_set ?_ GE222.out) | exact HB.out))) : w.heap.size ≤ gb231)); have n13_ := Aside0.mk ((by rw [hg]; exact Nat.ne_of_lt (blk_lt (g := gb203) (o := .cells #[.int .i64 a0_0, .slice A0_1 l0_1.length c0_1] 37 (0, 0)) (by (with_reducible repeat (first | refine blk_drewN ?_ _ | refine blk_drew ?_ | refine blk_alloc ?_ _)); exact BK203.out)) : gb203 ≠ gb231)); have n14_ := Aside0.mk ((by rw [hg]; exact Nat.ne_of_gt (blk_lt (g := gb203) (o := .cells #[.int .i64 a0_0, .slice A0_1 l0_1.length c0_1] 37 (0, 0)) (by (with_reducible repeat (first | refine blk_drewN ?_ _ | refine blk_drew ?_ | refine blk_alloc ?_ _)); exact BK203.out)) : gb231 ≠ gb203)); have n15_ := Aside0.mk ((by rw [hg]; exact Nat.ne_of_lt (blk_lt (g := gb217) (o := .cells #[.int .i64 t212, .slice Ao29 t213.length co29] 26 (0, 0)) (by (with_reducible repeat (first | refine blk_drewN ?_ _ | refine blk_drew ?_ | refine blk_alloc ?_ _)); exact BK217.out)) : gb217 ≠ gb231)); have n16_ := Aside0.mk ((by rw [hg]; exact Nat.ne_of_gt (blk_lt (g := gb217) (o := .cells #[.int .i64 t212, .slice Ao29 t213.length co29] 26 (0, 0)) (by (with_reducible repeat (first | refine blk_drewN ?_ _ | refine blk_drew ?_ | refine blk_alloc ?_ _)); exact BK217.out)) : gb231 ≠ gb217)); have n17_ := Aside0.mk ((by rw [hg]; exact Nat.ne_of_lt (blk_lt (g := gb222) (o := .cells #[.int .i64 t218, .slice Ao36 t219.length co36] 26 (0, 0)) (by (with_reducible repeat (first | refine blk_drewN ?_ _ | refine blk_drew ?_ | refine blk_alloc ?_ _)); exact BK222.out)) : gb222 ≠ gb231)); have n18_ := Aside0.mk ((by rw [hg]; exact Nat.ne_of_gt (blk_lt (g := gb222) (o := .cells #[.int .i64 t218, .slice Ao36 t219.length co36] 26 (0, 0)) (by (with_reducible repeat (first | refine blk_drewN ?_ _ | refine blk_drew ?_ | refine blk_alloc ?_ _)); exact BK222.out)) : gb231 ≠ gb222)); clear HO208; clear HO211; clear HO215; clear HO221; clear HO225; clear HO229; clear BK203; clear BK217; clear BK222; clear HB; have HO208 := n0_; have HO211 := n1_; have HO215 := n2_; have HO221 := n3_; have HO225 := n4_; have HO229 := n5_; have BK203 := n6_; have BK217 := n7_; have BK222 := n8_; have HB := n9_; have BK231 := n10_; have GW231 := n11_; have GE231 := n12_; have NB203_231 := n13_; have NB231_203 := n14_; have NB217_231 := n15_; have NB231_217 := n16_; have NB222_231 := n17_; have NB231_222 := n18_; clear n0_ n1_ n2_ n3_ n4_ n5_ n6_ n7_ n8_ n9_ n10_ n11_ n12_ n13_ n14_ n15_ n16_ n17_ n18_; clear hb hbox hg; have hnb42 := NB231_203.out; have hnc42 := NB203_231.out; have hnb43 := NB231_217.out; have hnc43 := NB217_231.out; have hnb44 := NB231_222.out; have hnc44 := NB222_231.out; have hcz45_0 : w41.cell? ⟨gb231, 0, none⟩ = some (.int .i64 0) := (blk_cell BK231.out 0).trans rfl; have hcz45_1 : w41.cell? ⟨gb231, 1, none⟩ = some (.slice none 0 0) := (blk_cell BK231.out 1).trans rfl; have hfz45_0 := blk_frozen BK231.out 0; have hfz45_1 := blk_frozen BK231.out 1; obtain ⟨Ao46, co46, eo46⟩ := Kd.R_slice HO229.out; subst eo46))
   (try simp only [Act.put, List.setIfInBounds_toArray, List.set_cons_zero, List.set_cons_succ])
   go_cut [51] (fun v51 wc => ∃ (kq : Nat) (x51_15 : Bool), v51 = .bool x51_15 ∧ Aside0 (laws_FnExactCutting.j0 kq l1 t216 t223 t230 x51_15 a0_0 l0_1 t212 t213 t218 t219 t226 t227 = some r) ∧ Aside0 (kq ≤ k) ∧ Aside0 (Kd.R (Kd.int .i64) 2 wc w.heap.size (fun _ => True) (.slice Ao39 t223.length co39) t223) ∧ Aside0 (Kd.R k34 34 wc w.heap.size (fun k_ => some k_ ≠ ((.slice Ao36 t219.length co36) : Value).ownBlock ∧ some k_ ≠ ((.slice Ao46 t227.length co46) : Value).ownBlock) (.slice Ao29 t213.length co29) t213) ∧ Aside0 (Kd.R k34 34 wc w.heap.size (fun k_ => some k_ ≠ ((.slice Ao29 t213.length co29) : Value).ownBlock ∧ some k_ ≠ ((.slice Ao46 t227.length co46) : Value).ownBlock) (.slice Ao36 t219.length co36) t219) ∧ Aside0 (Kd.R k34 34 wc w.heap.size (fun k_ => some k_ ≠ ((.slice Ao29 t213.length co29) : Value).ownBlock ∧ some k_ ≠ ((.slice Ao36 t219.length co36) : Value).ownBlock) (.slice Ao46 t227.length co46) t227) ∧ Aside0 (wc.heap[gb203]? = some (.cells #[.int .i64 a0_0, (.slice A0_1 l0_1.length c0_1)] 37 (0, 0))) ∧ Aside0 (wc.heap[gb217]? = some (.cells #[.int .i64 t212, (.slice Ao29 t213.length co29)] 26 (0, 0))) ∧ Aside0 (wc.heap[gb222]? = some (.cells #[.int .i64 t218, (.slice Ao36 t219.length co36)] 26 (0, 0))) ∧ Aside0 (wc.heap[gb231]? = some (.cells #[.int .i64 t226, (.slice Ao46 t227.length co46)] 26 (0, 0))) ∧ Aside0 (Below w.heap.size w wc))
   case first =>
    have H := HC16.out
    clear HC16
    replace H := Option.bind_eq_some_iff.mp H
    obtain ⟨t232, A470, H⟩ := H
    replace H : (if t232 = true then (laws_FnExactCutting.j0 k l1 t216 t223 t230 (t230 != t216) a0_0 l0_1 t212 t213 t218 t219 t226 t227) else (laws_FnExactCutting.j0 k l1 t216 t223 t230 true a0_0 l0_1 t212 t213 t218 t219 t226 t227)) = some r := H
    have A47 := Aside0.mk A470
    clear A470
    by_cases c48 : t232 = true
    ·
     subst c48
     have H1 : (laws_FnExactCutting.j0 k l1 t216 t223 t230 (t230 != t216) a0_0 l0_1 t212 t213 t218 t219 t226 t227) = some r := by rw [if_pos rfl] at H; exact H
     clear H
     have H := H1
     clear H1
     have H' := Aside0.mk H
     clear H
     have hnb49 := NB231_203.out
     have hnc49 := NB203_231.out
     have hnb50 := NB231_217.out
     have hnc50 := NB217_231.out
     have hnb51 := NB231_222.out
     have hnc51 := NB222_231.out
     have hcz52_0 : w41.cell? ⟨gb231, 0, none⟩ = some (.int .i64 0) := (blk_cell BK231.out 0).trans rfl
     have hcz52_1 : w41.cell? ⟨gb231, 1, none⟩ = some (.slice none 0 0) := (blk_cell BK231.out 1).trans rfl
     have hfz52_0 := blk_frozen BK231.out 0
     have hfz52_1 := blk_frozen BK231.out 1
     have hnb53 := NB217_203.out
     have hnc53 := NB203_217.out
     have hnb54 := NB217_222.out
     have hnc54 := NB222_217.out
     have hcz55_0 : w41.cell? ⟨gb217, 0, none⟩ = some (.int .i64 t212) := (blk_cell BK217.out 0).trans rfl
     have hcz55_1 : w41.cell? ⟨gb217, 1, none⟩ = some (.slice Ao29 t213.length co29) := (blk_cell BK217.out 1).trans rfl
     have hfz55_0 := blk_frozen BK217.out 0
     have hfz55_1 := blk_frozen BK217.out 1
     go_wp2_with (first | ((with_reducible refine gate_callee (f := 21) rfl ?_); refine goesL_ (some 45) rfl rfl Try.func21 (by kernel_rfl) rfl #[.agg #[.int .i64 t226, .slice Ao46 t227.length co46], .agg #[.int .i64 t212, .slice Ao29 t213.length co29]] rfl (by (try simp only [List.map_toArray, List.map_cons, List.map_nil]); first | done | rfl | (simp only [List.length_drop, List.length_take]; rfl)) ?_; (with_reducible refine (laws_eqNet.calls k t226 _ _ t227 t212 _ _ t213 true _ ?side1 ?side2 ?side3 ?side4 A47.out).mono ?_); (case side1 => refine (Kd.R_reads' (e := 34) (base := w.heap.size) (ok := fun k_ => (((True ∧ some k_ ≠ (.slice Ao23 t206.length co23 : Value).ownBlock) ∧ some k_ ≠ (.slice Ao29 t213.length co29 : Value).ownBlock) ∧ some k_ ≠ (.slice Ao36 t219.length co36 : Value).ownBlock)) (n := t227.length) (c := co46) ?_).2.2; exact (by (with_reducible repeat (first | apply Kd.R_alloc | apply Kd.R_drewN | apply Kd.R_drew)); exact (Kd.R_mono (Kd.R_far (p := ⟨gb231, 1, none⟩) (Kd.R_far (p := ⟨gb231, 0, none⟩) (Kd.R_types HO229.out BK231.out (by decide)) (fun _ hk => hk.2) (.int .i64 t226)) (fun _ hk => hk.2) (.slice Ao46 t227.length co46)) (fun _ h_ => h_.1)))); (case side2 => exact (Kd.R_reads' HO229.out).2.1); (case side3 => refine (Kd.R_reads' (e := 34) (base := w.heap.size) (ok := fun k_ => (((True ∧ some k_ ≠ (.slice Ao23 t206.length co23 : Value).ownBlock) ∧ some k_ ≠ (.slice Ao36 t219.length co36 : Value).ownBlock) ∧ some k_ ≠ (.slice Ao46 t227.length co46 : Value).ownBlock)) (n := t213.length) (c := co29) ?_).2.2; exact (by (with_reducible repeat (first | apply Kd.R_alloc | apply Kd.R_drewN | apply Kd.R_drew)); exact (Kd.R_mono (Kd.R_far (p := ⟨gb231, 1, none⟩) (Kd.R_far (p := ⟨gb231, 0, none⟩) (Kd.R_types HO215.out BK231.out (by decide)) (fun _ hk => hk.2) (.int .i64 t226)) (fun _ hk => hk.2) (.slice Ao46 t227.length co46)) (fun _ h_ => h_.1)))); (case side4 => exact (Kd.R_reads' HO215.out).2.1); rintro e w56 ⟨rfl, hb⟩; refine ⟨_, rfl, ?_⟩; have n0_ := Aside0.mk (Kd.R_below (by (with_reducible repeat (first | apply Kd.R_alloc | apply Kd.R_drewN | apply Kd.R_drew)); exact (Kd.R_mono (Kd.R_far (p := ⟨gb231, 1, none⟩) (Kd.R_far (p := ⟨gb231, 0, none⟩) (Kd.R_types HO208.out BK231.out (by decide)) (fun _ hk => hk.2) (.int .i64 t226)) (fun _ hk => hk.2) (.slice Ao46 t227.length co46)) (fun _ h_ => h_.1))) hb); have n1_ := Aside0.mk (Kd.R_below (by (with_reducible repeat (first | apply Kd.R_alloc | apply Kd.R_drewN | apply Kd.R_drew)); exact (Kd.R_mono (Kd.R_far (p := ⟨gb231, 1, none⟩) (Kd.R_far (p := ⟨gb231, 0, none⟩) (Kd.R_types HO211.out BK231.out (by decide)) (fun _ hk => hk.2) (.int .i64 t226)) (fun _ hk => hk.2) (.slice Ao46 t227.length co46)) (fun _ h_ => h_.1))) hb); have n2_ := Aside0.mk (Kd.R_below (by (with_reducible repeat (first | apply Kd.R_alloc | apply Kd.R_drewN | apply Kd.R_drew)); exact (Kd.R_mono (Kd.R_far (p := ⟨gb231, 1, none⟩) (Kd.R_far (p := ⟨gb231, 0, none⟩) (Kd.R_types HO215.out BK231.out (by decide)) (fun _ hk => hk.2) (.int .i64 t226)) (fun _ hk => hk.2) (.slice Ao46 t227.length co46)) (fun _ h_ => h_.1))) hb); have n3_ := Aside0.mk (Kd.R_below (by (with_reducible repeat (first | apply Kd.R_alloc | apply Kd.R_drewN | apply Kd.R_drew)); exact (Kd.R_mono (Kd.R_far (p := ⟨gb231, 1, none⟩) (Kd.R_far (p := ⟨gb231, 0, none⟩) (Kd.R_types HO221.out BK231.out (by decide)) (fun _ hk => hk.2) (.int .i64 t226)) (fun _ hk => hk.2) (.slice Ao46 t227.length co46)) (fun _ h_ => h_.1))) hb); have n4_ := Aside0.mk (Kd.R_below (by (with_reducible repeat (first | apply Kd.R_alloc | apply Kd.R_drewN | apply Kd.R_drew)); exact (Kd.R_mono (Kd.R_far (p := ⟨gb231, 1, none⟩) (Kd.R_far (p := ⟨gb231, 0, none⟩) (Kd.R_types HO225.out BK231.out (by decide)) (fun _ hk => hk.2) (.int .i64 t226)) (fun _ hk => hk.2) (.slice Ao46 t227.length co46)) (fun _ h_ => h_.1))) hb); have n5_ := Aside0.mk (Kd.R_below (by (with_reducible repeat (first | apply Kd.R_alloc | apply Kd.R_drewN | apply Kd.R_drew)); exact (Kd.R_mono (Kd.R_far (p := ⟨gb231, 1, none⟩) (Kd.R_far (p := ⟨gb231, 0, none⟩) (Kd.R_types HO229.out BK231.out (by decide)) (fun _ hk => hk.2) (.int .i64 t226)) (fun _ hk => hk.2) (.slice Ao46 t227.length co46)) (fun _ h_ => h_.1))) hb); have n6_ := Aside0.mk (blk_below (g := gb203) (o := .cells #[.int .i64 a0_0, .slice A0_1 l0_1.length c0_1] 37 (0, 0)) (by (with_reducible repeat (first | refine blk_drewN ?_ _ | refine blk_drew ?_ | refine blk_alloc ?_ _)); refine blk_far ?_ NB203_231.out _; (with_reducible repeat (first | refine blk_drewN ?_ _ | refine blk_drew ?_ | refine blk_alloc ?_ _)); refine blk_far ?_ NB203_231.out _; (with_reducible repeat (first | refine blk_drewN ?_ _ | refine blk_drew ?_ | refine blk_alloc ?_ _)); exact BK203.out) hb); have n7_ := Aside0.mk (blk_below (g := gb217) (o := .cells #[.int .i64 t212, .slice Ao29 t213.length co29] 26 (0, 0)) (by (with_reducible repeat (first | refine blk_drewN ?_ _ | refine blk_drew ?_ | refine blk_alloc ?_ _)); refine blk_far ?_ NB217_231.out _; (with_reducible repeat (first | refine blk_drewN ?_ _ | refine blk_drew ?_ | refine blk_alloc ?_ _)); refine blk_far ?_ NB217_231.out _; (with_reducible repeat (first | refine blk_drewN ?_ _ | refine blk_drew ?_ | refine blk_alloc ?_ _)); exact BK217.out) hb); have n8_ := Aside0.mk (blk_below (g := gb222) (o := .cells #[.int .i64 t218, .slice Ao36 t219.length co36] 26 (0, 0)) (by (with_reducible repeat (first | refine blk_drewN ?_ _ | refine blk_drew ?_ | refine blk_alloc ?_ _)); refine blk_far ?_ NB222_231.out _; (with_reducible repeat (first | refine blk_drewN ?_ _ | refine blk_drew ?_ | refine blk_alloc ?_ _)); refine blk_far ?_ NB222_231.out _; (with_reducible repeat (first | refine blk_drewN ?_ _ | refine blk_drew ?_ | refine blk_alloc ?_ _)); exact BK222.out) hb); have n9_ := Aside0.mk (blk_below (g := gb231) (o := .cells #[.int .i64 t226, .slice Ao46 t227.length co46] 26 (0, 0)) (by (with_reducible repeat (first | refine blk_drewN ?_ _ | refine blk_drew ?_ | refine blk_alloc ?_ _)); refine blk_put (cs := #[.int .i64 t226, .slice none 0 0]) ?_ 1 _ rfl; (with_reducible repeat (first | refine blk_drewN ?_ _ | refine blk_drew ?_ | refine blk_alloc ?_ _)); refine blk_put (cs := #[.int .i64 0, .slice none 0 0]) ?_ 0 _ rfl; (with_reducible repeat (first | refine blk_drewN ?_ _ | refine blk_drew ?_ | refine blk_alloc ?_ _)); exact BK231.out) hb); have n10_ := Aside0.mk (below_step (by repeat (first | (with_reducible first | exact HB.out | apply below_alloc | apply pw_below_drewN | apply below_drew1 | refine below_set ?_ GE203.out | refine below_set ?_ GE217.out | refine below_set ?_ GE222.out | refine below_set ?_ GE231.out) | exact HB.out)) hb); clear HO208; clear HO211; clear HO215; clear HO221; clear HO225; clear HO229; clear BK203; clear BK217; clear BK222; clear BK231; clear HB; have HO208 := n0_; have HO211 := n1_; have HO215 := n2_; have HO221 := n3_; have HO225 := n4_; have HO229 := n5_; have BK203 := n6_; have BK217 := n7_; have BK222 := n8_; have BK231 := n9_; have HB := n10_; clear n0_ n1_ n2_ n3_ n4_ n5_ n6_ n7_ n8_ n9_ n10_; (try clear hb); (try clear hb2); (try clear hk); (try clear hi)))
     go_meet
     case rel => exact ⟨_, ((t230 != t216)), (by first | rfl | (simp; done) | (simp [*]; done)), H', ⟨by first | omega | exact Nat.le_refl _⟩, ⟨by (with_reducible repeat (first | apply Kd.R_alloc | apply Kd.R_drewN | apply Kd.R_drew)); exact Kd.R_mono HO225.out (fun _ hk => trivial)⟩, ⟨by (with_reducible repeat (first | apply Kd.R_alloc | apply Kd.R_drewN | apply Kd.R_drew)); exact Kd.R_mono HO215.out (fun _ hk => ⟨hk.1.2, hk.2⟩)⟩, ⟨by (with_reducible repeat (first | apply Kd.R_alloc | apply Kd.R_drewN | apply Kd.R_drew)); exact Kd.R_mono HO221.out (fun _ hk => ⟨hk.1.2, hk.2⟩)⟩, ⟨by (with_reducible repeat (first | apply Kd.R_alloc | apply Kd.R_drewN | apply Kd.R_drew)); exact Kd.R_mono HO229.out (fun _ hk => ⟨hk.1.2, hk.2⟩)⟩, ⟨by (with_reducible repeat (first | refine blk_drewN ?_ _ | refine blk_drew ?_ | refine blk_alloc ?_ _)); exact BK203.out⟩, ⟨by (with_reducible repeat (first | refine blk_drewN ?_ _ | refine blk_drew ?_ | refine blk_alloc ?_ _)); exact BK217.out⟩, ⟨by (with_reducible repeat (first | refine blk_drewN ?_ _ | refine blk_drew ?_ | refine blk_alloc ?_ _)); exact BK222.out⟩, ⟨by (with_reducible repeat (first | refine blk_drewN ?_ _ | refine blk_drew ?_ | refine blk_alloc ?_ _)); exact BK231.out⟩, ⟨by repeat (first | (with_reducible first | exact HB.out | apply below_alloc | apply pw_below_drewN | apply below_drew1 | refine below_set ?_ GE203.out | refine below_set ?_ GE217.out | refine below_set ?_ GE222.out | refine below_set ?_ GE231.out) | exact HB.out)⟩⟩
    ·
     replace c48 := Bool.eq_false_iff.mpr c48
     subst c48
     have H1 : (laws_FnExactCutting.j0 k l1 t216 t223 t230 true a0_0 l0_1 t212 t213 t218 t219 t226 t227) = some r := by rw [if_neg (show ¬ (false = true) by decide)] at H; exact H
     clear H
     have H := H1
     clear H1
     have H' := Aside0.mk H
     clear H
     have hnb57 := NB231_203.out
     have hnc57 := NB203_231.out
     have hnb58 := NB231_217.out
     have hnc58 := NB217_231.out
     have hnb59 := NB231_222.out
     have hnc59 := NB222_231.out
     have hcz60_0 : w41.cell? ⟨gb231, 0, none⟩ = some (.int .i64 0) := (blk_cell BK231.out 0).trans rfl
     have hcz60_1 : w41.cell? ⟨gb231, 1, none⟩ = some (.slice none 0 0) := (blk_cell BK231.out 1).trans rfl
     have hfz60_0 := blk_frozen BK231.out 0
     have hfz60_1 := blk_frozen BK231.out 1
     have hnb61 := NB217_203.out
     have hnc61 := NB203_217.out
     have hnb62 := NB217_222.out
     have hnc62 := NB222_217.out
     have hcz63_0 : w41.cell? ⟨gb217, 0, none⟩ = some (.int .i64 t212) := (blk_cell BK217.out 0).trans rfl
     have hcz63_1 : w41.cell? ⟨gb217, 1, none⟩ = some (.slice Ao29 t213.length co29) := (blk_cell BK217.out 1).trans rfl
     have hfz63_0 := blk_frozen BK217.out 0
     have hfz63_1 := blk_frozen BK217.out 1
     go_wp2_with (first | ((with_reducible refine gate_callee (f := 21) rfl ?_); refine goesL_ (some 45) rfl rfl Try.func21 (by kernel_rfl) rfl #[.agg #[.int .i64 t226, .slice Ao46 t227.length co46], .agg #[.int .i64 t212, .slice Ao29 t213.length co29]] rfl (by (try simp only [List.map_toArray, List.map_cons, List.map_nil]); first | done | rfl | (simp only [List.length_drop, List.length_take]; rfl)) ?_; (with_reducible refine (laws_eqNet.calls k t226 _ _ t227 t212 _ _ t213 false _ ?side1 ?side2 ?side3 ?side4 A47.out).mono ?_); (case side1 => refine (Kd.R_reads' (e := 34) (base := w.heap.size) (ok := fun k_ => (((True ∧ some k_ ≠ (.slice Ao23 t206.length co23 : Value).ownBlock) ∧ some k_ ≠ (.slice Ao29 t213.length co29 : Value).ownBlock) ∧ some k_ ≠ (.slice Ao36 t219.length co36 : Value).ownBlock)) (n := t227.length) (c := co46) ?_).2.2; exact (by (with_reducible repeat (first | apply Kd.R_alloc | apply Kd.R_drewN | apply Kd.R_drew)); exact (Kd.R_mono (Kd.R_far (p := ⟨gb231, 1, none⟩) (Kd.R_far (p := ⟨gb231, 0, none⟩) (Kd.R_types HO229.out BK231.out (by decide)) (fun _ hk => hk.2) (.int .i64 t226)) (fun _ hk => hk.2) (.slice Ao46 t227.length co46)) (fun _ h_ => h_.1)))); (case side2 => exact (Kd.R_reads' HO229.out).2.1); (case side3 => refine (Kd.R_reads' (e := 34) (base := w.heap.size) (ok := fun k_ => (((True ∧ some k_ ≠ (.slice Ao23 t206.length co23 : Value).ownBlock) ∧ some k_ ≠ (.slice Ao36 t219.length co36 : Value).ownBlock) ∧ some k_ ≠ (.slice Ao46 t227.length co46 : Value).ownBlock)) (n := t213.length) (c := co29) ?_).2.2; exact (by (with_reducible repeat (first | apply Kd.R_alloc | apply Kd.R_drewN | apply Kd.R_drew)); exact (Kd.R_mono (Kd.R_far (p := ⟨gb231, 1, none⟩) (Kd.R_far (p := ⟨gb231, 0, none⟩) (Kd.R_types HO215.out BK231.out (by decide)) (fun _ hk => hk.2) (.int .i64 t226)) (fun _ hk => hk.2) (.slice Ao46 t227.length co46)) (fun _ h_ => h_.1)))); (case side4 => exact (Kd.R_reads' HO215.out).2.1); rintro e w64 ⟨rfl, hb⟩; refine ⟨_, rfl, ?_⟩; have n0_ := Aside0.mk (Kd.R_below (by (with_reducible repeat (first | apply Kd.R_alloc | apply Kd.R_drewN | apply Kd.R_drew)); exact (Kd.R_mono (Kd.R_far (p := ⟨gb231, 1, none⟩) (Kd.R_far (p := ⟨gb231, 0, none⟩) (Kd.R_types HO208.out BK231.out (by decide)) (fun _ hk => hk.2) (.int .i64 t226)) (fun _ hk => hk.2) (.slice Ao46 t227.length co46)) (fun _ h_ => h_.1))) hb); have n1_ := Aside0.mk (Kd.R_below (by (with_reducible repeat (first | apply Kd.R_alloc | apply Kd.R_drewN | apply Kd.R_drew)); exact (Kd.R_mono (Kd.R_far (p := ⟨gb231, 1, none⟩) (Kd.R_far (p := ⟨gb231, 0, none⟩) (Kd.R_types HO211.out BK231.out (by decide)) (fun _ hk => hk.2) (.int .i64 t226)) (fun _ hk => hk.2) (.slice Ao46 t227.length co46)) (fun _ h_ => h_.1))) hb); have n2_ := Aside0.mk (Kd.R_below (by (with_reducible repeat (first | apply Kd.R_alloc | apply Kd.R_drewN | apply Kd.R_drew)); exact (Kd.R_mono (Kd.R_far (p := ⟨gb231, 1, none⟩) (Kd.R_far (p := ⟨gb231, 0, none⟩) (Kd.R_types HO215.out BK231.out (by decide)) (fun _ hk => hk.2) (.int .i64 t226)) (fun _ hk => hk.2) (.slice Ao46 t227.length co46)) (fun _ h_ => h_.1))) hb); have n3_ := Aside0.mk (Kd.R_below (by (with_reducible repeat (first | apply Kd.R_alloc | apply Kd.R_drewN | apply Kd.R_drew)); exact (Kd.R_mono (Kd.R_far (p := ⟨gb231, 1, none⟩) (Kd.R_far (p := ⟨gb231, 0, none⟩) (Kd.R_types HO221.out BK231.out (by decide)) (fun _ hk => hk.2) (.int .i64 t226)) (fun _ hk => hk.2) (.slice Ao46 t227.length co46)) (fun _ h_ => h_.1))) hb); have n4_ := Aside0.mk (Kd.R_below (by (with_reducible repeat (first | apply Kd.R_alloc | apply Kd.R_drewN | apply Kd.R_drew)); exact (Kd.R_mono (Kd.R_far (p := ⟨gb231, 1, none⟩) (Kd.R_far (p := ⟨gb231, 0, none⟩) (Kd.R_types HO225.out BK231.out (by decide)) (fun _ hk => hk.2) (.int .i64 t226)) (fun _ hk => hk.2) (.slice Ao46 t227.length co46)) (fun _ h_ => h_.1))) hb); have n5_ := Aside0.mk (Kd.R_below (by (with_reducible repeat (first | apply Kd.R_alloc | apply Kd.R_drewN | apply Kd.R_drew)); exact (Kd.R_mono (Kd.R_far (p := ⟨gb231, 1, none⟩) (Kd.R_far (p := ⟨gb231, 0, none⟩) (Kd.R_types HO229.out BK231.out (by decide)) (fun _ hk => hk.2) (.int .i64 t226)) (fun _ hk => hk.2) (.slice Ao46 t227.length co46)) (fun _ h_ => h_.1))) hb); have n6_ := Aside0.mk (blk_below (g := gb203) (o := .cells #[.int .i64 a0_0, .slice A0_1 l0_1.length c0_1] 37 (0, 0)) (by (with_reducible repeat (first | refine blk_drewN ?_ _ | refine blk_drew ?_ | refine blk_alloc ?_ _)); refine blk_far ?_ NB203_231.out _; (with_reducible repeat (first | refine blk_drewN ?_ _ | refine blk_drew ?_ | refine blk_alloc ?_ _)); refine blk_far ?_ NB203_231.out _; (with_reducible repeat (first | refine blk_drewN ?_ _ | refine blk_drew ?_ | refine blk_alloc ?_ _)); exact BK203.out) hb); have n7_ := Aside0.mk (blk_below (g := gb217) (o := .cells #[.int .i64 t212, .slice Ao29 t213.length co29] 26 (0, 0)) (by (with_reducible repeat (first | refine blk_drewN ?_ _ | refine blk_drew ?_ | refine blk_alloc ?_ _)); refine blk_far ?_ NB217_231.out _; (with_reducible repeat (first | refine blk_drewN ?_ _ | refine blk_drew ?_ | refine blk_alloc ?_ _)); refine blk_far ?_ NB217_231.out _; (with_reducible repeat (first | refine blk_drewN ?_ _ | refine blk_drew ?_ | refine blk_alloc ?_ _)); exact BK217.out) hb); have n8_ := Aside0.mk (blk_below (g := gb222) (o := .cells #[.int .i64 t218, .slice Ao36 t219.length co36] 26 (0, 0)) (by (with_reducible repeat (first | refine blk_drewN ?_ _ | refine blk_drew ?_ | refine blk_alloc ?_ _)); refine blk_far ?_ NB222_231.out _; (with_reducible repeat (first | refine blk_drewN ?_ _ | refine blk_drew ?_ | refine blk_alloc ?_ _)); refine blk_far ?_ NB222_231.out _; (with_reducible repeat (first | refine blk_drewN ?_ _ | refine blk_drew ?_ | refine blk_alloc ?_ _)); exact BK222.out) hb); have n9_ := Aside0.mk (blk_below (g := gb231) (o := .cells #[.int .i64 t226, .slice Ao46 t227.length co46] 26 (0, 0)) (by (with_reducible repeat (first | refine blk_drewN ?_ _ | refine blk_drew ?_ | refine blk_alloc ?_ _)); refine blk_put (cs := #[.int .i64 t226, .slice none 0 0]) ?_ 1 _ rfl; (with_reducible repeat (first | refine blk_drewN ?_ _ | refine blk_drew ?_ | refine blk_alloc ?_ _)); refine blk_put (cs := #[.int .i64 0, .slice none 0 0]) ?_ 0 _ rfl; (with_reducible repeat (first | refine blk_drewN ?_ _ | refine blk_drew ?_ | refine blk_alloc ?_ _)); exact BK231.out) hb); have n10_ := Aside0.mk (below_step (by repeat (first | (with_reducible first | exact HB.out | apply below_alloc | apply pw_below_drewN | apply below_drew1 | refine below_set ?_ GE203.out | refine below_set ?_ GE217.out | refine below_set ?_ GE222.out | refine below_set ?_ GE231.out) | exact HB.out)) hb); clear HO208; clear HO211; clear HO215; clear HO221; clear HO225; clear HO229; clear BK203; clear BK217; clear BK222; clear BK231; clear HB; have HO208 := n0_; have HO211 := n1_; have HO215 := n2_; have HO221 := n3_; have HO225 := n4_; have HO229 := n5_; have BK203 := n6_; have BK217 := n7_; have BK222 := n8_; have BK231 := n9_; have HB := n10_; clear n0_ n1_ n2_ n3_ n4_ n5_ n6_ n7_ n8_ n9_ n10_; (try clear hb); (try clear hb2); (try clear hk); (try clear hi)))
     go_meet
     case rel => exact ⟨_, (true), (by first | rfl | (simp; done) | (simp [*]; done)), H', ⟨by first | omega | exact Nat.le_refl _⟩, ⟨by (with_reducible repeat (first | apply Kd.R_alloc | apply Kd.R_drewN | apply Kd.R_drew)); exact Kd.R_mono HO225.out (fun _ hk => trivial)⟩, ⟨by (with_reducible repeat (first | apply Kd.R_alloc | apply Kd.R_drewN | apply Kd.R_drew)); exact Kd.R_mono HO215.out (fun _ hk => ⟨hk.1.2, hk.2⟩)⟩, ⟨by (with_reducible repeat (first | apply Kd.R_alloc | apply Kd.R_drewN | apply Kd.R_drew)); exact Kd.R_mono HO221.out (fun _ hk => ⟨hk.1.2, hk.2⟩)⟩, ⟨by (with_reducible repeat (first | apply Kd.R_alloc | apply Kd.R_drewN | apply Kd.R_drew)); exact Kd.R_mono HO229.out (fun _ hk => ⟨hk.1.2, hk.2⟩)⟩, ⟨by (with_reducible repeat (first | refine blk_drewN ?_ _ | refine blk_drew ?_ | refine blk_alloc ?_ _)); exact BK203.out⟩, ⟨by (with_reducible repeat (first | refine blk_drewN ?_ _ | refine blk_drew ?_ | refine blk_alloc ?_ _)); exact BK217.out⟩, ⟨by (with_reducible repeat (first | refine blk_drewN ?_ _ | refine blk_drew ?_ | refine blk_alloc ?_ _)); exact BK222.out⟩, ⟨by (with_reducible repeat (first | refine blk_drewN ?_ _ | refine blk_drew ?_ | refine blk_alloc ?_ _)); exact BK231.out⟩, ⟨by repeat (first | (with_reducible first | exact HB.out | apply below_alloc | apply pw_below_drewN | apply below_drew1 | refine below_set ?_ GE203.out | refine below_set ?_ GE217.out | refine below_set ?_ GE222.out | refine below_set ?_ GE231.out) | exact HB.out)⟩⟩
   case rest =>
    clear HC16
    try clear c1
    try clear c2
    try clear p2
    try clear c3
    try clear c3b0
    try clear c3b1
    try clear c4
    try clear c5
    try clear c6
    try clear c6b0
    try clear c14
    try clear c15
    try clear c17
    try clear c19
    try clear c21
    try clear c27
    try clear c30
    try clear c33
    try clear c34
    try clear c42
    try clear c43
    try clear c44
    try clear c48
    try clear c49
    try clear c50
    try clear c51
    try clear c53
    try clear c54
    try clear c57
    try clear c58
    try clear c59
    try clear c61
    try clear c62
    try clear hcz18_0
    try clear hcz18_1
    try clear hcz20_0
    try clear hcz20_1
    try clear hcz28_0
    try clear hcz28_1
    try clear hcz30_0
    try clear hcz30_1
    try clear hcz35_0
    try clear hcz35_1
    try clear hcz38_0
    try clear hcz38_1
    try clear hcz45_0
    try clear hcz45_1
    try clear hcz52_0
    try clear hcz52_1
    try clear hcz55_0
    try clear hcz55_1
    try clear hcz60_0
    try clear hcz60_1
    try clear hcz63_0
    try clear hcz63_1
    try clear hcz8_0
    try clear hcz8_1
    try clear hfz18_0
    try clear hfz18_1
    try clear hfz20_0
    try clear hfz20_1
    try clear hfz28_0
    try clear hfz28_1
    try clear hfz30_0
    try clear hfz30_1
    try clear hfz35_0
    try clear hfz35_1
    try clear hfz38_0
    try clear hfz38_1
    try clear hfz45_0
    try clear hfz45_1
    try clear hfz52_0
    try clear hfz52_1
    try clear hfz55_0
    try clear hfz55_1
    try clear hfz60_0
    try clear hfz60_1
    try clear hfz63_0
    try clear hfz63_1
    try clear hfz8_0
    try clear hfz8_1
    obtain ⟨kq, x51_15, rfl, HA, HJ15, HO_9, HO_218001, HO_223001, HO_232001, BK203, BK217, BK222, BK231, HB⟩ := hcut
    cases kq with
    | zero => exact absurd HA.out (by simp [laws_FnExactCutting.j0])
    | succ kj15 =>
     have H := HA.out
     clear HA
     simp only [laws_FnExactCutting.j0] at H
     by_cases c65 : x51_15 = true
     ·
      subst c65
      have H1 : (some false) = some r := by rw [if_pos rfl] at H; exact H
      clear H
      have H := H1
      clear H1
      obtain rfl := Option.some.inj H
      go_wp2
      go_ret
      exact ⟨by first | rfl | (simp [errW_none, errW_some] <;> rfl) | (simp [*, errW_none, errW_some] <;> rfl), by repeat (first | (with_reducible first | exact HB.out | apply below_alloc | apply pw_below_drewN | apply below_drew1 | refine below_set ?_ GE203.out | refine below_set ?_ GE217.out | refine below_set ?_ GE222.out | refine below_set ?_ GE231.out) | exact HB.out)⟩
     ·
      replace c65 := Bool.eq_false_iff.mpr c65
      subst c65
      have H1 : ((laws_toNet.f kj15 a0_0 l0_1).bind fun bt233 => ((laws_eqNet.f kj15 t218 t219 bt233.1 bt233.2).bind fun t237 => (if t237 = true then ((laws_toInt64S.f kj15 l1).bind fun t238 => ((laws_eqInt64S.f kj15 t223 t238).bind fun t241 => (if t241 = true then ((laws_markNet.f kj15 t218 t219 1).bind fun bt242 => ((laws_markInt64S.f kj15 t223 bt242.1).bind fun bt244 => (if bt244.1 < 0 then (laws_FnExactCutting.j1 kj15 l1 t216 true a0_0 l0_1 t212 t213 t226 t227) else ((laws_eqNet.f kj15 t226 t227 t212 t213).bind fun t246 => (if t246 = true then (laws_FnExactCutting.j1 kj15 l1 t216 (t230 != t216) a0_0 l0_1 t212 t213 t226 t227) else (laws_FnExactCutting.j1 kj15 l1 t216 true a0_0 l0_1 t212 t213 t226 t227)))))) else (some false)))) else (some false)))) = some r := by rw [if_neg (show ¬ (false = true) by decide)] at H; exact H
      clear H
      have H := H1
      clear H1
      replace H := Option.bind_eq_some_iff.mp H
      obtain ⟨⟨t233, t234⟩, A660, H⟩ := H
      replace H : ((laws_eqNet.f kj15 t218 t219 t233 t234).bind fun t237 => (if t237 = true then ((laws_toInt64S.f kj15 l1).bind fun t238 => ((laws_eqInt64S.f kj15 t223 t238).bind fun t241 => (if t241 = true then ((laws_markNet.f kj15 t218 t219 1).bind fun bt242 => ((laws_markInt64S.f kj15 t223 bt242.1).bind fun bt244 => (if bt244.1 < 0 then (laws_FnExactCutting.j1 kj15 l1 t216 true a0_0 l0_1 t212 t213 t226 t227) else ((laws_eqNet.f kj15 t226 t227 t212 t213).bind fun t246 => (if t246 = true then (laws_FnExactCutting.j1 kj15 l1 t216 (t230 != t216) a0_0 l0_1 t212 t213 t226 t227) else (laws_FnExactCutting.j1 kj15 l1 t216 true a0_0 l0_1 t212 t213 t226 t227)))))) else (some false)))) else (some false))) = some r := H
      have A66 := Aside0.mk A660
      clear A660
      replace H := Option.bind_eq_some_iff.mp H
      obtain ⟨t237, A670, H⟩ := H
      replace H : (if t237 = true then ((laws_toInt64S.f kj15 l1).bind fun t238 => ((laws_eqInt64S.f kj15 t223 t238).bind fun t241 => (if t241 = true then ((laws_markNet.f kj15 t218 t219 1).bind fun bt242 => ((laws_markInt64S.f kj15 t223 bt242.1).bind fun bt244 => (if bt244.1 < 0 then (laws_FnExactCutting.j1 kj15 l1 t216 true a0_0 l0_1 t212 t213 t226 t227) else ((laws_eqNet.f kj15 t226 t227 t212 t213).bind fun t246 => (if t246 = true then (laws_FnExactCutting.j1 kj15 l1 t216 (t230 != t216) a0_0 l0_1 t212 t213 t226 t227) else (laws_FnExactCutting.j1 kj15 l1 t216 true a0_0 l0_1 t212 t213 t226 t227)))))) else (some false)))) else (some false)) = some r := H
      have A67 := Aside0.mk A670
      clear A670
      by_cases c68 : t237 = true
      ·
       subst c68
       have H1 : ((laws_toInt64S.f kj15 l1).bind fun t238 => ((laws_eqInt64S.f kj15 t223 t238).bind fun t241 => (if t241 = true then ((laws_markNet.f kj15 t218 t219 1).bind fun bt242 => ((laws_markInt64S.f kj15 t223 bt242.1).bind fun bt244 => (if bt244.1 < 0 then (laws_FnExactCutting.j1 kj15 l1 t216 true a0_0 l0_1 t212 t213 t226 t227) else ((laws_eqNet.f kj15 t226 t227 t212 t213).bind fun t246 => (if t246 = true then (laws_FnExactCutting.j1 kj15 l1 t216 (t230 != t216) a0_0 l0_1 t212 t213 t226 t227) else (laws_FnExactCutting.j1 kj15 l1 t216 true a0_0 l0_1 t212 t213 t226 t227)))))) else (some false)))) = some r := by rw [if_pos rfl] at H; exact H
       clear H
       have H := H1
       clear H1
       replace H := Option.bind_eq_some_iff.mp H
       obtain ⟨t238, A690, H⟩ := H
       replace H : ((laws_eqInt64S.f kj15 t223 t238).bind fun t241 => (if t241 = true then ((laws_markNet.f kj15 t218 t219 1).bind fun bt242 => ((laws_markInt64S.f kj15 t223 bt242.1).bind fun bt244 => (if bt244.1 < 0 then (laws_FnExactCutting.j1 kj15 l1 t216 true a0_0 l0_1 t212 t213 t226 t227) else ((laws_eqNet.f kj15 t226 t227 t212 t213).bind fun t246 => (if t246 = true then (laws_FnExactCutting.j1 kj15 l1 t216 (t230 != t216) a0_0 l0_1 t212 t213 t226 t227) else (laws_FnExactCutting.j1 kj15 l1 t216 true a0_0 l0_1 t212 t213 t226 t227)))))) else (some false))) = some r := H
       have A69 := Aside0.mk A690
       clear A690
       replace H := Option.bind_eq_some_iff.mp H
       obtain ⟨t241, A700, H⟩ := H
       replace H : (if t241 = true then ((laws_markNet.f kj15 t218 t219 1).bind fun bt242 => ((laws_markInt64S.f kj15 t223 bt242.1).bind fun bt244 => (if bt244.1 < 0 then (laws_FnExactCutting.j1 kj15 l1 t216 true a0_0 l0_1 t212 t213 t226 t227) else ((laws_eqNet.f kj15 t226 t227 t212 t213).bind fun t246 => (if t246 = true then (laws_FnExactCutting.j1 kj15 l1 t216 (t230 != t216) a0_0 l0_1 t212 t213 t226 t227) else (laws_FnExactCutting.j1 kj15 l1 t216 true a0_0 l0_1 t212 t213 t226 t227)))))) else (some false)) = some r := H
       have A70 := Aside0.mk A700
       clear A700
       by_cases c71 : t241 = true
       ·
        subst c71
        have H1 : ((laws_markNet.f kj15 t218 t219 1).bind fun bt242 => ((laws_markInt64S.f kj15 t223 bt242.1).bind fun bt244 => (if bt244.1 < 0 then (laws_FnExactCutting.j1 kj15 l1 t216 true a0_0 l0_1 t212 t213 t226 t227) else ((laws_eqNet.f kj15 t226 t227 t212 t213).bind fun t246 => (if t246 = true then (laws_FnExactCutting.j1 kj15 l1 t216 (t230 != t216) a0_0 l0_1 t212 t213 t226 t227) else (laws_FnExactCutting.j1 kj15 l1 t216 true a0_0 l0_1 t212 t213 t226 t227)))))) = some r := by rw [if_pos rfl] at H; exact H
        clear H
        have H := H1
        clear H1
        replace H := Option.bind_eq_some_iff.mp H
        obtain ⟨⟨t242, t243⟩, A720, H⟩ := H
        replace H : ((laws_markInt64S.f kj15 t223 t242).bind fun bt244 => (if bt244.1 < 0 then (laws_FnExactCutting.j1 kj15 l1 t216 true a0_0 l0_1 t212 t213 t226 t227) else ((laws_eqNet.f kj15 t226 t227 t212 t213).bind fun t246 => (if t246 = true then (laws_FnExactCutting.j1 kj15 l1 t216 (t230 != t216) a0_0 l0_1 t212 t213 t226 t227) else (laws_FnExactCutting.j1 kj15 l1 t216 true a0_0 l0_1 t212 t213 t226 t227))))) = some r := H
        have A72 := Aside0.mk A720
        clear A720
        replace H := Option.bind_eq_some_iff.mp H
        obtain ⟨⟨t244, t245⟩, A730, H⟩ := H
        replace H : (if t244 < 0 then (laws_FnExactCutting.j1 kj15 l1 t216 true a0_0 l0_1 t212 t213 t226 t227) else ((laws_eqNet.f kj15 t226 t227 t212 t213).bind fun t246 => (if t246 = true then (laws_FnExactCutting.j1 kj15 l1 t216 (t230 != t216) a0_0 l0_1 t212 t213 t226 t227) else (laws_FnExactCutting.j1 kj15 l1 t216 true a0_0 l0_1 t212 t213 t226 t227)))) = some r := H
        have A73 := Aside0.mk A730
        clear A730
        have HC74 := Aside0.mk H
        clear H
        try go_wp2
        have n0_ := Aside0.mk (Kd.R_drew HO_9.out)
        have n1_ := Aside0.mk (Kd.R_drew HO_218001.out)
        have n2_ := Aside0.mk (Kd.R_drew HO_223001.out)
        have n3_ := Aside0.mk (Kd.R_drew HO_232001.out)
        have n4_ := Aside0.mk (blk_drew BK203.out)
        have n5_ := Aside0.mk (blk_drew BK217.out)
        have n6_ := Aside0.mk (blk_drew BK222.out)
        have n7_ := Aside0.mk (blk_drew BK231.out)
        have n8_ := Aside0.mk (below_drew1 HB.out)
        clear HO_9
        clear HO_218001
        clear HO_223001
        clear HO_232001
        clear BK203
        clear BK217
        clear BK222
        clear BK231
        clear HB
        have HO_9 := n0_
        have HO_218001 := n1_
        have HO_223001 := n2_
        have HO_232001 := n3_
        have BK203 := n4_
        have BK217 := n5_
        have BK222 := n6_
        have BK231 := n7_
        have HB := n8_
        clear n0_ n1_ n2_ n3_ n4_ n5_ n6_ n7_ n8_
        refine start_ (n := 5) (S := fun w' => w'.cell? ⟨gb222, 0, none⟩ = some (.int .i64 t218) ∧ w'.cell? ⟨gb222, 1, none⟩ = some (.slice Ao36 t219.length co36) ∧ w'.cell? ⟨gb203, 0, none⟩ = some (.int .i64 a0_0) ∧ w'.cell? ⟨gb203, 1, none⟩ = some (.slice A0_1 l0_1.length c0_1)) (ds := []) #[false, false, false, false, false] (by kernel_rfl) rfl rfl ⟨(blk_cell BK222.out 0).trans rfl, (blk_cell BK222.out 1).trans rfl, (blk_cell BK203.out 0).trans rfl, (blk_cell BK203.out 1).trans rfl⟩ (fun hHeld => ?_)
        generalize wc.drew = w75 at HO_9 HO_218001 HO_223001 HO_232001 BK203 BK217 BK222 BK231 HB hHeld ⊢
        refine take_ (i := 0) (N := some 52) (v := ?_) (a' := ?_) #[true, false, false, false, false] rfl rfl (by kernel_rfl) (fun _ _ _ h => h) (Or.inl ⟨by rfl, ?_⟩) hHeld ?_ ?_
        rotate_left
        ·
         rintro w' ⟨s0, s1, s2, s3⟩
         go_simp
         with_reducible rfl
        rotate_left
        ·
         simp only [Act.put, List.setIfInBounds_toArray, List.set_cons_zero, List.set_cons_succ, i64_w, i32_w]
         rfl
        refine take_ (i := 1) (N := some 53) (v := ?_) (a' := ?_) #[true, true, false, false, false] rfl rfl (by kernel_rfl) (fun _ _ _ h => h) (Or.inl ⟨by rfl, ?_⟩) hHeld ?_ ?_
        rotate_left
        ·
         rintro w' ⟨s0, s1, s2, s3⟩
         go_simp
         with_reducible rfl
        rotate_left
        ·
         simp only [Act.put, List.setIfInBounds_toArray, List.set_cons_zero, List.set_cons_succ, i64_w, i32_w]
         rfl
        refine one_ (i := 2) (N := some 54) #[true, true, true, false, false] rfl rfl (by kernel_rfl) (by decide) (fun K hK => ?_)
        refine goes_ Try.func19 (by kernel_rfl) rfl #[.agg #[.int .i64 a0_0, .slice A0_1 l0_1.length c0_1]] (by rfl) rfl rfl (by (try simp only [List.map_toArray, List.map_cons, List.map_nil]); first | done | rfl | (simp only [List.length_drop, List.length_take]; rfl)) ?_
        with_reducible refine (laws_toNet.calls kj15 a0_0 _ _ l0_1 t233 t234 _ ?side1 ?side2 A66.out).mono ?_
        (case side1 => repeat (first | exact (Kd.C_below HR0_1.out HB.out) | (with_reducible refine Kd.C_alloc ?_ _) | (with_reducible refine Kd.C_drewN ?_ _) | (with_reducible refine Kd.C_drew ?_)))
        (case side2 => exact HC0_1.out)
        rintro e w76 ⟨v235, rfl, ho0, hb⟩
        refine ⟨_, rfl, ?_⟩
        have n0_ := Aside0.mk (Kd.R_below (by (with_reducible repeat (first | apply Kd.R_alloc | apply Kd.R_drewN | apply Kd.R_drew)); exact HO_9.out) hb)
        have n1_ := Aside0.mk (Kd.R_elder' (by (with_reducible repeat (first | apply Kd.R_alloc | apply Kd.R_drewN | apply Kd.R_drew)); exact HO_218001.out) (Kd.R_base ho0) hb)
        have n2_ := Aside0.mk (Kd.R_elder' (by (with_reducible repeat (first | apply Kd.R_alloc | apply Kd.R_drewN | apply Kd.R_drew)); exact HO_223001.out) (Kd.R_base ho0) hb)
        have n3_ := Aside0.mk (Kd.R_elder' (by (with_reducible repeat (first | apply Kd.R_alloc | apply Kd.R_drewN | apply Kd.R_drew)); exact HO_232001.out) (Kd.R_base ho0) hb)
        have n4_ := Aside0.mk (Kd.R_lower (Kd.R_new' (Kd.R_new' (Kd.R_new' ho0 (Kd.R_lt (by (with_reducible repeat (first | apply Kd.R_alloc | apply Kd.R_drewN | apply Kd.R_drew)); exact HO_218001.out))) (Kd.R_lt (by (with_reducible repeat (first | apply Kd.R_alloc | apply Kd.R_drewN | apply Kd.R_drew)); exact HO_223001.out))) (Kd.R_lt (by (with_reducible repeat (first | apply Kd.R_alloc | apply Kd.R_drewN | apply Kd.R_drew)); exact HO_232001.out))) (below_size (by repeat (first | (with_reducible first | exact HB.out | apply below_alloc | apply pw_below_drewN | apply below_drew1 | refine below_set ?_ GE203.out | refine below_set ?_ GE217.out | refine below_set ?_ GE222.out | refine below_set ?_ GE231.out) | exact HB.out))))
        have n5_ := Aside0.mk (blk_below (g := gb203) (o := .cells #[.int .i64 a0_0, .slice A0_1 l0_1.length c0_1] 37 (0, 0)) (by (with_reducible repeat (first | refine blk_drewN ?_ _ | refine blk_drew ?_ | refine blk_alloc ?_ _)); exact BK203.out) hb)
        have n6_ := Aside0.mk (blk_below (g := gb217) (o := .cells #[.int .i64 t212, .slice Ao29 t213.length co29] 26 (0, 0)) (by (with_reducible repeat (first | refine blk_drewN ?_ _ | refine blk_drew ?_ | refine blk_alloc ?_ _)); exact BK217.out) hb)
        have n7_ := Aside0.mk (blk_below (g := gb222) (o := .cells #[.int .i64 t218, .slice Ao36 t219.length co36] 26 (0, 0)) (by (with_reducible repeat (first | refine blk_drewN ?_ _ | refine blk_drew ?_ | refine blk_alloc ?_ _)); exact BK222.out) hb)
        have n8_ := Aside0.mk (blk_below (g := gb231) (o := .cells #[.int .i64 t226, .slice Ao46 t227.length co46] 26 (0, 0)) (by (with_reducible repeat (first | refine blk_drewN ?_ _ | refine blk_drew ?_ | refine blk_alloc ?_ _)); exact BK231.out) hb)
        have n9_ := Aside0.mk (below_step (by repeat (first | (with_reducible first | exact HB.out | apply below_alloc | apply pw_below_drewN | apply below_drew1 | refine below_set ?_ GE203.out | refine below_set ?_ GE217.out | refine below_set ?_ GE222.out | refine below_set ?_ GE231.out) | exact HB.out)) hb)
        clear HO_9
        clear HO_218001
        clear HO_223001
        clear HO_232001
        clear BK203
        clear BK217
        clear BK222
        clear BK231
        clear HB
        have HO_9 := n0_
        have HO_218001 := n1_
        have HO_223001 := n2_
        have HO_232001 := n3_
        have HO236 := n4_
        have BK203 := n5_
        have BK217 := n6_
        have BK222 := n7_
        have BK231 := n8_
        have HB := n9_
        clear n0_ n1_ n2_ n3_ n4_ n5_ n6_ n7_ n8_ n9_
        (try clear hb)
        (try clear hb2)
        (try clear hk)
        (try clear hi)
        (try clear ho0)
        obtain ⟨Ao77, co77, eo77⟩ := Kd.R_slice HO236.out
        (first | subst eo77 | (injection eo77 with f1_ f2_ f3_; have f4_ := f1_.symm; have f5_ := f3_.symm; clear f1_ f2_ f3_; subst f4_; subst f5_))
        refine hK.out _ _ ⟨(blk_cell BK222.out 0).trans rfl, (blk_cell BK222.out 1).trans rfl, (blk_cell BK203.out 0).trans rfl, (blk_cell BK203.out 1).trans rfl⟩ (fun hHeld => ?_)
        clear hK K
        refine norm_ (a' := ?_) ?_ ?_
        rotate_left
        ·
         show Act.put _ (some 54) _ = _
         simp only [Act.put, List.setIfInBounds_toArray, List.set_cons_zero, List.set_cons_succ, i64_w, i32_w]
         rfl
        refine one_ (i := 3) (N := some 55) #[true, true, true, true, false] rfl rfl (by kernel_rfl) (by decide) (fun K hK => ?_)
        refine goes_ Try.func21 (by kernel_rfl) rfl #[.agg #[.int .i64 t218, .slice Ao36 t219.length co36], .agg #[.int .i64 t233, .slice Ao77 t234.length co77]] (by rfl) rfl rfl (by (try simp only [List.map_toArray, List.map_cons, List.map_nil]); first | done | rfl | (simp only [List.length_drop, List.length_take]; rfl)) ?_
        with_reducible refine (laws_eqNet.calls kj15 t218 _ _ t219 t233 _ _ t234 true _ ?side1 ?side2 ?side3 ?side4 A67.out).mono ?_
        (case side1 => repeat (first | exact (Kd.R_reads' HO_223001.out).2.2 | (with_reducible refine Kd.C_alloc ?_ _) | (with_reducible refine Kd.C_drewN ?_ _) | (with_reducible refine Kd.C_drew ?_)))
        (case side2 => exact (Kd.R_reads' HO_223001.out).2.1)
        (case side3 => repeat (first | exact (Kd.R_reads' HO236.out).2.2 | (with_reducible refine Kd.C_alloc ?_ _) | (with_reducible refine Kd.C_drewN ?_ _) | (with_reducible refine Kd.C_drew ?_)))
        (case side4 => exact (Kd.R_reads' HO236.out).2.1)
        rintro e w78 ⟨rfl, hb⟩
        refine ⟨_, rfl, ?_⟩
        have n0_ := Aside0.mk (Kd.R_below (by (with_reducible repeat (first | apply Kd.R_alloc | apply Kd.R_drewN | apply Kd.R_drew)); exact HO_9.out) hb)
        have n1_ := Aside0.mk (Kd.R_below (by (with_reducible repeat (first | apply Kd.R_alloc | apply Kd.R_drewN | apply Kd.R_drew)); exact HO_218001.out) hb)
        have n2_ := Aside0.mk (Kd.R_below (by (with_reducible repeat (first | apply Kd.R_alloc | apply Kd.R_drewN | apply Kd.R_drew)); exact HO_223001.out) hb)
        have n3_ := Aside0.mk (Kd.R_below (by (with_reducible repeat (first | apply Kd.R_alloc | apply Kd.R_drewN | apply Kd.R_drew)); exact HO_232001.out) hb)
        have n4_ := Aside0.mk (Kd.R_below (by (with_reducible repeat (first | apply Kd.R_alloc | apply Kd.R_drewN | apply Kd.R_drew)); exact HO236.out) hb)
        have n5_ := Aside0.mk (blk_below (g := gb203) (o := .cells #[.int .i64 a0_0, .slice A0_1 l0_1.length c0_1] 37 (0, 0)) (by (with_reducible repeat (first | refine blk_drewN ?_ _ | refine blk_drew ?_ | refine blk_alloc ?_ _)); exact BK203.out) hb)
        have n6_ := Aside0.mk (blk_below (g := gb217) (o := .cells #[.int .i64 t212, .slice Ao29 t213.length co29] 26 (0, 0)) (by (with_reducible repeat (first | refine blk_drewN ?_ _ | refine blk_drew ?_ | refine blk_alloc ?_ _)); exact BK217.out) hb)
        have n7_ := Aside0.mk (blk_below (g := gb222) (o := .cells #[.int .i64 t218, .slice Ao36 t219.length co36] 26 (0, 0)) (by (with_reducible repeat (first | refine blk_drewN ?_ _ | refine blk_drew ?_ | refine blk_alloc ?_ _)); exact BK222.out) hb)
        have n8_ := Aside0.mk (blk_below (g := gb231) (o := .cells #[.int .i64 t226, .slice Ao46 t227.length co46] 26 (0, 0)) (by (with_reducible repeat (first | refine blk_drewN ?_ _ | refine blk_drew ?_ | refine blk_alloc ?_ _)); exact BK231.out) hb)
        have n9_ := Aside0.mk (below_step (by repeat (first | (with_reducible first | exact HB.out | apply below_alloc | apply pw_below_drewN | apply below_drew1 | refine below_set ?_ GE203.out | refine below_set ?_ GE217.out | refine below_set ?_ GE222.out | refine below_set ?_ GE231.out) | exact HB.out)) hb)
        clear HO_9
        clear HO_218001
        clear HO_223001
        clear HO_232001
        clear HO236
        clear BK203
        clear BK217
        clear BK222
        clear BK231
        clear HB
        have HO_9 := n0_
        have HO_218001 := n1_
        have HO_223001 := n2_
        have HO_232001 := n3_
        have HO236 := n4_
        have BK203 := n5_
        have BK217 := n6_
        have BK222 := n7_
        have BK231 := n8_
        have HB := n9_
        clear n0_ n1_ n2_ n3_ n4_ n5_ n6_ n7_ n8_ n9_
        (try clear hb)
        (try clear hb2)
        (try clear hk)
        (try clear hi)
        refine hK.out _ _ ⟨(blk_cell BK222.out 0).trans rfl, (blk_cell BK222.out 1).trans rfl, (blk_cell BK203.out 0).trans rfl, (blk_cell BK203.out 1).trans rfl⟩ (fun hHeld => ?_)
        clear hK K
        refine norm_ (a' := ?_) ?_ ?_
        rotate_left
        ·
         show Act.put _ (some 55) _ = _
         simp only [Act.put, List.setIfInBounds_toArray, List.set_cons_zero, List.set_cons_succ, i64_w, i32_w]
         rfl
        refine pure_ (i := 4) (N := some 56) (v := ?_) (a' := ?_) #[true, true, true, true, true] rfl rfl (by kernel_rfl) (fun _ _ _ h => h) (Or.inl ⟨by rfl, ?_⟩) ?_ ?_
        rotate_left
        ·
         intro w'
         go_simp
         with_reducible rfl
        rotate_left
        ·
         simp only [Act.put, List.setIfInBounds_toArray, List.set_cons_zero, List.set_cons_succ, i64_w, i32_w]
         rfl
        refine done_ (by kernel_rfl) ?_
        go_upto_region 20 with (first | ((with_reducible refine gate_callee (f := 30) rfl ?_); refine goesL_ (some 59) rfl rfl Try.func30 (by kernel_rfl) rfl #[.slice A1 l1.length c1] rfl (by (try simp only [List.map_toArray, List.map_cons, List.map_nil]); first | done | rfl | (simp only [List.length_drop, List.length_take]; rfl)) ?_; (with_reducible refine (laws_toInt64S.calls kj15 _ _ l1 t238 _ ?side1 ?side2 A69.out).mono ?_); (case side1 => repeat (first | exact (Kd.C_below HR1.out HB.out) | (with_reducible refine Kd.C_alloc ?_ _) | (with_reducible refine Kd.C_drewN ?_ _) | (with_reducible refine Kd.C_drew ?_))); (case side2 => exact HC1.out); rintro e w79 ⟨v239, rfl, ho0, hb⟩; refine ⟨_, rfl, ?_⟩; have n0_ := Aside0.mk (Kd.R_elder' (by (with_reducible repeat (first | apply Kd.R_alloc | apply Kd.R_drewN | apply Kd.R_drew)); exact HO_9.out) (Kd.R_base ho0) hb); have n1_ := Aside0.mk (Kd.R_below (by (with_reducible repeat (first | apply Kd.R_alloc | apply Kd.R_drewN | apply Kd.R_drew)); exact HO_218001.out) hb); have n2_ := Aside0.mk (Kd.R_below (by (with_reducible repeat (first | apply Kd.R_alloc | apply Kd.R_drewN | apply Kd.R_drew)); exact HO_223001.out) hb); have n3_ := Aside0.mk (Kd.R_below (by (with_reducible repeat (first | apply Kd.R_alloc | apply Kd.R_drewN | apply Kd.R_drew)); exact HO_232001.out) hb); have n4_ := Aside0.mk (Kd.R_below (by (with_reducible repeat (first | apply Kd.R_alloc | apply Kd.R_drewN | apply Kd.R_drew)); exact HO236.out) hb); have n5_ := Aside0.mk (Kd.R_lower (Kd.R_new' ho0 (Kd.R_lt (by (with_reducible repeat (first | apply Kd.R_alloc | apply Kd.R_drewN | apply Kd.R_drew)); exact HO_9.out))) (below_size (by repeat (first | (with_reducible first | exact HB.out | apply below_alloc | apply pw_below_drewN | apply below_drew1 | refine below_set ?_ GE203.out | refine below_set ?_ GE217.out | refine below_set ?_ GE222.out | refine below_set ?_ GE231.out) | exact HB.out)))); have n6_ := Aside0.mk (blk_below (g := gb203) (o := .cells #[.int .i64 a0_0, .slice A0_1 l0_1.length c0_1] 37 (0, 0)) (by (with_reducible repeat (first | refine blk_drewN ?_ _ | refine blk_drew ?_ | refine blk_alloc ?_ _)); exact BK203.out) hb); have n7_ := Aside0.mk (blk_below (g := gb217) (o := .cells #[.int .i64 t212, .slice Ao29 t213.length co29] 26 (0, 0)) (by (with_reducible repeat (first | refine blk_drewN ?_ _ | refine blk_drew ?_ | refine blk_alloc ?_ _)); exact BK217.out) hb); have n8_ := Aside0.mk (blk_below (g := gb222) (o := .cells #[.int .i64 t218, .slice Ao36 t219.length co36] 26 (0, 0)) (by (with_reducible repeat (first | refine blk_drewN ?_ _ | refine blk_drew ?_ | refine blk_alloc ?_ _)); exact BK222.out) hb); have n9_ := Aside0.mk (blk_below (g := gb231) (o := .cells #[.int .i64 t226, .slice Ao46 t227.length co46] 26 (0, 0)) (by (with_reducible repeat (first | refine blk_drewN ?_ _ | refine blk_drew ?_ | refine blk_alloc ?_ _)); exact BK231.out) hb); have n10_ := Aside0.mk (below_step (by repeat (first | (with_reducible first | exact HB.out | apply below_alloc | apply pw_below_drewN | apply below_drew1 | refine below_set ?_ GE203.out | refine below_set ?_ GE217.out | refine below_set ?_ GE222.out | refine below_set ?_ GE231.out) | exact HB.out)) hb); clear HO_9; clear HO_218001; clear HO_223001; clear HO_232001; clear HO236; clear BK203; clear BK217; clear BK222; clear BK231; clear HB; have HO_9 := n0_; have HO_218001 := n1_; have HO_223001 := n2_; have HO_232001 := n3_; have HO236 := n4_; have HO240 := n5_; have BK203 := n6_; have BK217 := n7_; have BK222 := n8_; have BK231 := n9_; have HB := n10_; clear n0_ n1_ n2_ n3_ n4_ n5_ n6_ n7_ n8_ n9_ n10_; (try clear hb); (try clear hb2); (try clear hk); (try clear hi); (try clear ho0); obtain ⟨Ao80, co80, eo80⟩ := Kd.R_slice HO240.out; subst eo80) | ((with_reducible refine gate_callee (f := 31) rfl ?_); refine goesL_ (some 60) rfl rfl Try.func31 (by kernel_rfl) rfl #[.slice Ao39 t223.length co39, .slice Ao80 t238.length co80] rfl (by (try simp only [List.map_toArray, List.map_cons, List.map_nil]); first | done | rfl | (simp only [List.length_drop, List.length_take]; rfl)) ?_; (with_reducible refine (laws_eqInt64S.calls kj15 _ _ t223 _ _ t238 true _ ?side1 ?side2 ?side3 ?side4 A70.out).mono ?_); (case side1 => repeat (first | exact (Kd.R_reads' HO_9.out).2.2 | (with_reducible refine Kd.C_alloc ?_ _) | (with_reducible refine Kd.C_drewN ?_ _) | (with_reducible refine Kd.C_drew ?_))); (case side2 => exact (Kd.R_reads' HO_9.out).2.1); (case side3 => repeat (first | exact (Kd.R_reads' HO240.out).2.2 | (with_reducible refine Kd.C_alloc ?_ _) | (with_reducible refine Kd.C_drewN ?_ _) | (with_reducible refine Kd.C_drew ?_))); (case side4 => exact (Kd.R_reads' HO240.out).2.1); rintro e w' ⟨rfl, ⟨nd, rfl⟩⟩; refine ⟨_, rfl, ?_⟩; have hnb81 := NB222_203.out; have hnc81 := NB203_222.out; have hnb82 := NB222_217.out; have hnc82 := NB217_222.out; have hnb83 := NB222_231.out; have hnc83 := NB231_222.out; have hcz84_0 : w79.cell? ⟨gb222, 0, none⟩ = some (.int .i64 t218) := (blk_cell BK222.out 0).trans rfl; have hcz84_1 : w79.cell? ⟨gb222, 1, none⟩ = some (.slice Ao36 t219.length co36) := (blk_cell BK222.out 1).trans rfl; have hfz84_0 := blk_frozen BK222.out 0; have hfz84_1 := blk_frozen BK222.out 1) | ((with_reducible refine gate_callee (f := 23) rfl ?_); refine goesL_ (some 64) rfl rfl Try.func23 (by kernel_rfl) rfl #[.agg #[.int .i64 t218, .slice Ao36 t219.length co36], .int .i64 1] rfl (by (try simp only [List.map_toArray, List.map_cons, List.map_nil]); first | done | rfl | (simp only [List.length_drop, List.length_take]; rfl)) ?_; (with_reducible refine (laws_markNet.calls kj15 t218 (fun k_ => some k_ = (.slice Ao36 t219.length co36 : Value).ownBlock) (.slice Ao36 t219.length co36) t219 1 t242 t243 w _ ?side1 ?side2 A72.out).mono ?_); (case side1 => repeat (first | (with_reducible first | exact HB.out | apply below_alloc | apply pw_below_drewN | apply below_drew1 | refine below_set ?_ GE203.out | refine below_set ?_ GE217.out | refine below_set ?_ GE222.out | refine below_set ?_ GE231.out) | exact HB.out)); (case side2 => exact Kd.R_tight rfl HO_223001.out); rintro e w85 ⟨rfl, hy0, hb, hkp⟩; refine ⟨_, rfl, ?_⟩; have n0_ := Aside0.mk (Kd.R_mono (ok' := fun k_ => some k_ ≠ (.slice Ao80 t238.length co80 : Value).ownBlock) (Kd.R_keptB ((Kd.R_apart' HO_9.out (Kd.R_typed HO_223001.out) (by decide))) hkp (fun k_ hk_ hs_ => by first | exact (hk_.2) hs_ | simp_all)) (fun k_ hk_ => by first | exact hk_.1.1.2 | simp_all)); have n1_ := Aside0.mk (Kd.R_mono (ok' := fun k_ => some k_ ≠ (.slice Ao36 t219.length co36 : Value).ownBlock ∧ some k_ ≠ (.slice Ao46 t227.length co46 : Value).ownBlock ∧ some k_ ≠ (.slice Ao77 t234.length co77 : Value).ownBlock) (Kd.R_keptB (HO_218001.out) hkp (fun k_ hk_ hs_ => by first | exact (hk_.1.1) hs_ | simp_all)) (fun k_ hk_ => by first | exact ⟨hk_.1.1.1, hk_.1.1.2, hk_.1.2⟩ | simp_all)); have n2_ := Aside0.mk (Kd.R_reok rfl hy0 (fun k_ e_ => HO_223001.out.1 k_ e_)); have n3_ := Aside0.mk (Kd.R_mono (ok' := fun k_ => some k_ ≠ (.slice Ao29 t213.length co29 : Value).ownBlock ∧ some k_ ≠ (.slice Ao36 t219.length co36 : Value).ownBlock ∧ some k_ ≠ (.slice Ao77 t234.length co77 : Value).ownBlock) (Kd.R_keptB (HO_232001.out) hkp (fun k_ hk_ hs_ => by first | exact (hk_.1.2) hs_ | simp_all)) (fun k_ hk_ => by first | exact ⟨hk_.1.1.1, hk_.1.1.2, hk_.1.2⟩ | simp_all)); have n4_ := Aside0.mk (blk_kept (by first | with_reducible exact BK203.out | exact blk_drewN BK203.out _ | exact blk_drewN (blk_drewN BK203.out _) _ | ((with_reducible repeat (first | refine blk_drewN ?_ _ | refine blk_drew ?_ | refine blk_alloc ?_ _)); exact BK203.out)) hkp (fun hs_ => (fun e_ => (Kd.R_ne HO_223001.out BK203.out (by decide)) e_) hs_)); have n5_ := Aside0.mk (blk_kept (by first | with_reducible exact BK217.out | exact blk_drewN BK217.out _ | exact blk_drewN (blk_drewN BK217.out _) _ | ((with_reducible repeat (first | refine blk_drewN ?_ _ | refine blk_drew ?_ | refine blk_alloc ?_ _)); exact BK217.out)) hkp (fun hs_ => (fun e_ => (Kd.R_ne HO_223001.out BK217.out (by decide)) e_) hs_)); have n6_ := Aside0.mk (blk_kept (by first | with_reducible exact BK222.out | exact blk_drewN BK222.out _ | exact blk_drewN (blk_drewN BK222.out _) _ | ((with_reducible repeat (first | refine blk_drewN ?_ _ | refine blk_drew ?_ | refine blk_alloc ?_ _)); exact BK222.out)) hkp (fun hs_ => (fun e_ => (Kd.R_ne HO_223001.out BK222.out (by decide)) e_) hs_)); have n7_ := Aside0.mk (blk_kept (by first | with_reducible exact BK231.out | exact blk_drewN BK231.out _ | exact blk_drewN (blk_drewN BK231.out _) _ | ((with_reducible repeat (first | refine blk_drewN ?_ _ | refine blk_drew ?_ | refine blk_alloc ?_ _)); exact BK231.out)) hkp (fun hs_ => (fun e_ => (Kd.R_ne HO_223001.out BK231.out (by decide)) e_) hs_)); have n8_ := Aside0.mk (Kd.R_mono (ok' := fun k_ => some k_ ≠ (.slice Ao29 t213.length co29 : Value).ownBlock ∧ some k_ ≠ (.slice Ao36 t219.length co36 : Value).ownBlock ∧ some k_ ≠ (.slice Ao46 t227.length co46 : Value).ownBlock) (Kd.R_keptB (HO236.out) hkp (fun k_ hk_ hs_ => by first | exact (hk_.1.2) hs_ | simp_all)) (fun k_ hk_ => by first | exact ⟨hk_.1.1.1.2, hk_.1.1.2, hk_.1.2⟩ | simp_all)); have n9_ := Aside0.mk (Kd.R_mono (ok' := fun k_ => some k_ ≠ (.slice Ao39 t223.length co39 : Value).ownBlock) (Kd.R_keptB ((Kd.R_apart' HO240.out (Kd.R_typed HO_223001.out) (by decide))) hkp (fun k_ hk_ hs_ => by first | exact (hk_.2) hs_ | simp_all)) (fun k_ hk_ => by first | exact hk_.1.1.2 | simp_all)); have n10_ := Aside0.mk (hb); clear HO_9; clear HO_218001; clear HO_223001; clear HO_232001; clear BK203; clear BK217; clear BK222; clear BK231; clear HO236; clear HO240; clear HB; have HO_9 := n0_; have HO_218001 := n1_; have HO_223001 := n2_; have HO_232001 := n3_; have BK203 := n4_; have BK217 := n5_; have BK222 := n6_; have BK231 := n7_; have HO236 := n8_; have HO240 := n9_; have HB := n10_; clear n0_ n1_ n2_ n3_ n4_ n5_ n6_ n7_ n8_ n9_ n10_; (try clear hb); (try clear hkp); (try clear hy0)) | ((with_reducible refine gate_callee (f := 32) rfl ?_); refine goesL_ (some 67) rfl rfl Try.func32 (by kernel_rfl) rfl #[.slice Ao39 t223.length co39, .int .i64 t242] rfl (by (try simp only [List.map_toArray, List.map_cons, List.map_nil]); first | done | rfl | (simp only [List.length_drop, List.length_take]; rfl)) ?_; (with_reducible refine (laws_markInt64S.calls kj15 (fun k_ => some k_ = (.slice Ao39 t223.length co39 : Value).ownBlock) (.slice Ao39 t223.length co39) t223 t242 t244 t245 w _ ?side1 ?side2 A73.out).mono ?_); (case side1 => repeat (first | (with_reducible first | exact HB.out | apply below_alloc | apply pw_below_drewN | apply below_drew1 | refine below_set ?_ GE203.out | refine below_set ?_ GE217.out | refine below_set ?_ GE222.out | refine below_set ?_ GE231.out) | exact HB.out)); (case side2 => exact Kd.R_tight rfl HO_9.out); rintro e w86 ⟨rfl, hy0, hb, hkp⟩; refine ⟨_, rfl, ?_⟩; have n0_ := Aside0.mk (Kd.R_reok rfl hy0 (fun k_ e_ => HO_9.out.1 k_ e_)); have n1_ := Aside0.mk (Kd.R_mono (ok' := fun k_ => some k_ ≠ (.slice Ao36 t219.length co36 : Value).ownBlock ∧ some k_ ≠ (.slice Ao46 t227.length co46 : Value).ownBlock ∧ some k_ ≠ (.slice Ao77 t234.length co77 : Value).ownBlock) (Kd.R_keptB ((Kd.R_apart' HO_218001.out (Kd.R_typed HO_9.out) (by decide))) hkp (fun k_ hk_ hs_ => by first | exact (hk_.2) hs_ | simp_all)) (fun k_ hk_ => by first | exact ⟨hk_.1.1.1, hk_.1.1.2.1, hk_.1.1.2.2⟩ | simp_all)); have n2_ := Aside0.mk (Kd.R_mono (ok' := fun k_ => some k_ ≠ (.slice Ao29 t213.length co29 : Value).ownBlock ∧ some k_ ≠ (.slice Ao46 t227.length co46 : Value).ownBlock ∧ some k_ ≠ (.slice Ao77 t234.length co77 : Value).ownBlock) (Kd.R_keptB ((Kd.R_apart' HO_223001.out (Kd.R_typed HO_9.out) (by decide))) hkp (fun k_ hk_ hs_ => by first | exact (hk_.2) hs_ | simp_all)) (fun k_ hk_ => by first | exact ⟨hk_.1.1.1.1, hk_.1.1.1.2, hk_.1.1.2⟩ | simp_all)); have n3_ := Aside0.mk (Kd.R_mono (ok' := fun k_ => some k_ ≠ (.slice Ao29 t213.length co29 : Value).ownBlock ∧ some k_ ≠ (.slice Ao36 t219.length co36 : Value).ownBlock ∧ some k_ ≠ (.slice Ao77 t234.length co77 : Value).ownBlock) (Kd.R_keptB ((Kd.R_apart' HO_232001.out (Kd.R_typed HO_9.out) (by decide))) hkp (fun k_ hk_ hs_ => by first | exact (hk_.2) hs_ | simp_all)) (fun k_ hk_ => by first | exact ⟨hk_.1.1.1, hk_.1.1.2.1, hk_.1.1.2.2⟩ | simp_all)); have n4_ := Aside0.mk (blk_kept (by first | with_reducible exact BK203.out | exact blk_drewN BK203.out _ | exact blk_drewN (blk_drewN BK203.out _) _ | ((with_reducible repeat (first | refine blk_drewN ?_ _ | refine blk_drew ?_ | refine blk_alloc ?_ _)); exact BK203.out)) hkp (fun hs_ => (fun e_ => (Kd.R_ne HO_9.out BK203.out (by decide)) e_) hs_)); have n5_ := Aside0.mk (blk_kept (by first | with_reducible exact BK217.out | exact blk_drewN BK217.out _ | exact blk_drewN (blk_drewN BK217.out _) _ | ((with_reducible repeat (first | refine blk_drewN ?_ _ | refine blk_drew ?_ | refine blk_alloc ?_ _)); exact BK217.out)) hkp (fun hs_ => (fun e_ => (Kd.R_ne HO_9.out BK217.out (by decide)) e_) hs_)); have n6_ := Aside0.mk (blk_kept (by first | with_reducible exact BK222.out | exact blk_drewN BK222.out _ | exact blk_drewN (blk_drewN BK222.out _) _ | ((with_reducible repeat (first | refine blk_drewN ?_ _ | refine blk_drew ?_ | refine blk_alloc ?_ _)); exact BK222.out)) hkp (fun hs_ => (fun e_ => (Kd.R_ne HO_9.out BK222.out (by decide)) e_) hs_)); have n7_ := Aside0.mk (blk_kept (by first | with_reducible exact BK231.out | exact blk_drewN BK231.out _ | exact blk_drewN (blk_drewN BK231.out _) _ | ((with_reducible repeat (first | refine blk_drewN ?_ _ | refine blk_drew ?_ | refine blk_alloc ?_ _)); exact BK231.out)) hkp (fun hs_ => (fun e_ => (Kd.R_ne HO_9.out BK231.out (by decide)) e_) hs_)); have n8_ := Aside0.mk (Kd.R_mono (ok' := fun k_ => some k_ ≠ (.slice Ao29 t213.length co29 : Value).ownBlock ∧ some k_ ≠ (.slice Ao36 t219.length co36 : Value).ownBlock ∧ some k_ ≠ (.slice Ao46 t227.length co46 : Value).ownBlock) (Kd.R_keptB ((Kd.R_apart' HO236.out (Kd.R_typed HO_9.out) (by decide))) hkp (fun k_ hk_ hs_ => by first | exact (hk_.2) hs_ | simp_all)) (fun k_ hk_ => by first | exact ⟨hk_.1.1.1, hk_.1.1.2.1, hk_.1.1.2.2⟩ | simp_all)); have n9_ := Aside0.mk (Kd.R_mono (ok' := fun k_ => some k_ ≠ (.slice Ao39 t223.length co39 : Value).ownBlock) (Kd.R_keptB (HO240.out) hkp (fun k_ hk_ hs_ => (hk_) hs_)) (fun k_ hk_ => by first | exact hk_.1 | simp_all)); have n10_ := Aside0.mk (hb); clear HO_9; clear HO_218001; clear HO_223001; clear HO_232001; clear BK203; clear BK217; clear BK222; clear BK231; clear HO236; clear HO240; clear HB; have HO_9 := n0_; have HO_218001 := n1_; have HO_223001 := n2_; have HO_232001 := n3_; have BK203 := n4_; have BK217 := n5_; have BK222 := n6_; have BK231 := n7_; have HO236 := n8_; have HO240 := n9_; have HB := n10_; clear n0_ n1_ n2_ n3_ n4_ n5_ n6_ n7_ n8_ n9_ n10_; (try clear hb); (try clear hkp); (try clear hy0)))
        (try simp only [Act.put, List.setIfInBounds_toArray, List.set_cons_zero, List.set_cons_succ])
        go_cut [80] (fun v80 wc => ∃ (kq : Nat) (x80_73 : Bool), v80 = .bool x80_73 ∧ Aside0 (laws_FnExactCutting.j1 kq l1 t216 x80_73 a0_0 l0_1 t212 t213 t226 t227 = some r) ∧ Aside0 (kq ≤ kj15) ∧ Aside0 (Kd.R k34 34 wc w.heap.size (fun k_ => some k_ ≠ ((.slice Ao36 t219.length co36) : Value).ownBlock ∧ some k_ ≠ ((.slice Ao46 t227.length co46) : Value).ownBlock) (.slice Ao29 t213.length co29) t213) ∧ Aside0 (Kd.R k34 34 wc w.heap.size (fun k_ => some k_ ≠ ((.slice Ao29 t213.length co29) : Value).ownBlock ∧ some k_ ≠ ((.slice Ao46 t227.length co46) : Value).ownBlock) (.slice Ao36 t219.length co36) t243) ∧ Aside0 (Kd.R k34 34 wc w.heap.size (fun k_ => some k_ ≠ ((.slice Ao29 t213.length co29) : Value).ownBlock ∧ some k_ ≠ ((.slice Ao36 t219.length co36) : Value).ownBlock) (.slice Ao46 t227.length co46) t227) ∧ Aside0 (wc.heap[gb203]? = some (.cells #[.int .i64 a0_0, (.slice A0_1 l0_1.length c0_1)] 37 (0, 0))) ∧ Aside0 (wc.heap[gb217]? = some (.cells #[.int .i64 t212, (.slice Ao29 t213.length co29)] 26 (0, 0))) ∧ Aside0 (wc.heap[gb222]? = some (.cells #[.int .i64 t218, (.slice Ao36 t219.length co36)] 26 (0, 0))) ∧ Aside0 (wc.heap[gb231]? = some (.cells #[.int .i64 t226, (.slice Ao46 t227.length co46)] 26 (0, 0))) ∧ Aside0 (Below w.heap.size w wc))
        case first =>
         have H := HC74.out
         clear HC74
         by_cases c87 : t244 < 0
         ·
          rw [if_pos c87] at H
          have c87b0 : decide (t244 < 0) = true := decide_eq_true c87
          clear c87
          (first | rw [c87b0] | (simp only [i64_w, i32_w]; rw [c87b0]) | skip)
          have H' := Aside0.mk H
          clear H
          go_wp2
          go_meet
          case rel => exact ⟨_, (true), (by first | rfl | (simp; done) | (simp [*]; done)), H', ⟨by have := HJ15.out; first | omega | exact Nat.le_refl _⟩, ⟨by (with_reducible repeat (first | apply Kd.R_alloc | apply Kd.R_drewN | apply Kd.R_drew)); exact Kd.R_mono HO_218001.out (fun _ hk => ⟨hk.1, hk.2.1⟩)⟩, ⟨by (with_reducible repeat (first | apply Kd.R_alloc | apply Kd.R_drewN | apply Kd.R_drew)); exact Kd.R_mono HO_223001.out (fun _ hk => ⟨hk.1, hk.2.1⟩)⟩, ⟨by (with_reducible repeat (first | apply Kd.R_alloc | apply Kd.R_drewN | apply Kd.R_drew)); exact Kd.R_mono HO_232001.out (fun _ hk => ⟨hk.1, hk.2.1⟩)⟩, ⟨by (with_reducible repeat (first | refine blk_drewN ?_ _ | refine blk_drew ?_ | refine blk_alloc ?_ _)); exact BK203.out⟩, ⟨by (with_reducible repeat (first | refine blk_drewN ?_ _ | refine blk_drew ?_ | refine blk_alloc ?_ _)); exact BK217.out⟩, ⟨by (with_reducible repeat (first | refine blk_drewN ?_ _ | refine blk_drew ?_ | refine blk_alloc ?_ _)); exact BK222.out⟩, ⟨by (with_reducible repeat (first | refine blk_drewN ?_ _ | refine blk_drew ?_ | refine blk_alloc ?_ _)); exact BK231.out⟩, ⟨by repeat (first | (with_reducible first | exact HB.out | apply below_alloc | apply pw_below_drewN | apply below_drew1 | refine below_set ?_ GE203.out | refine below_set ?_ GE217.out | refine below_set ?_ GE222.out | refine below_set ?_ GE231.out) | exact HB.out)⟩⟩
         ·
          rw [if_neg c87] at H
          have c87b0 : decide (t244 < 0) = false := decide_eq_false c87
          clear c87
          (first | rw [c87b0] | (simp only [i64_w, i32_w]; rw [c87b0]) | skip)
          replace H := Option.bind_eq_some_iff.mp H
          obtain ⟨t246, A880, H⟩ := H
          replace H : (if t246 = true then (laws_FnExactCutting.j1 kj15 l1 t216 (t230 != t216) a0_0 l0_1 t212 t213 t226 t227) else (laws_FnExactCutting.j1 kj15 l1 t216 true a0_0 l0_1 t212 t213 t226 t227)) = some r := H
          have A88 := Aside0.mk A880
          clear A880
          by_cases c89 : t246 = true
          ·
           subst c89
           have H1 : (laws_FnExactCutting.j1 kj15 l1 t216 (t230 != t216) a0_0 l0_1 t212 t213 t226 t227) = some r := by rw [if_pos rfl] at H; exact H
           clear H
           have H := H1
           clear H1
           have H' := Aside0.mk H
           clear H
           have hnb90 := NB231_203.out
           have hnc90 := NB203_231.out
           have hnb91 := NB231_217.out
           have hnc91 := NB217_231.out
           have hnb92 := NB231_222.out
           have hnc92 := NB222_231.out
           have hcz93_0 : w86.cell? ⟨gb231, 0, none⟩ = some (.int .i64 t226) := (blk_cell BK231.out 0).trans rfl
           have hcz93_1 : w86.cell? ⟨gb231, 1, none⟩ = some (.slice Ao46 t227.length co46) := (blk_cell BK231.out 1).trans rfl
           have hfz93_0 := blk_frozen BK231.out 0
           have hfz93_1 := blk_frozen BK231.out 1
           have hnb94 := NB217_203.out
           have hnc94 := NB203_217.out
           have hnb95 := NB217_222.out
           have hnc95 := NB222_217.out
           have hcz96_0 : w86.cell? ⟨gb217, 0, none⟩ = some (.int .i64 t212) := (blk_cell BK217.out 0).trans rfl
           have hcz96_1 : w86.cell? ⟨gb217, 1, none⟩ = some (.slice Ao29 t213.length co29) := (blk_cell BK217.out 1).trans rfl
           have hfz96_0 := blk_frozen BK217.out 0
           have hfz96_1 := blk_frozen BK217.out 1
           go_wp2_with (first | (go_at_call 21; (with_reducible refine (laws_eqNet.calls kj15 t226 _ _ t227 t212 _ _ t213 true _ ?side1 ?side2 ?side3 ?side4 A88.out).mono ?_); (case side1 => repeat (first | exact (Kd.R_reads' HO_232001.out).2.2 | (with_reducible refine Kd.C_alloc ?_ _) | (with_reducible refine Kd.C_drewN ?_ _) | (with_reducible refine Kd.C_drew ?_))); (case side2 => exact (Kd.R_reads' HO_232001.out).2.1); (case side3 => repeat (first | exact (Kd.R_reads' HO_218001.out).2.2 | (with_reducible refine Kd.C_alloc ?_ _) | (with_reducible refine Kd.C_drewN ?_ _) | (with_reducible refine Kd.C_drew ?_))); (case side4 => exact (Kd.R_reads' HO_218001.out).2.1); rintro e w97 ⟨rfl, hb⟩; have n0_ := Aside0.mk (Kd.R_below (by (with_reducible repeat (first | apply Kd.R_alloc | apply Kd.R_drewN | apply Kd.R_drew)); exact HO_9.out) hb); have n1_ := Aside0.mk (Kd.R_below (by (with_reducible repeat (first | apply Kd.R_alloc | apply Kd.R_drewN | apply Kd.R_drew)); exact HO_218001.out) hb); have n2_ := Aside0.mk (Kd.R_below (by (with_reducible repeat (first | apply Kd.R_alloc | apply Kd.R_drewN | apply Kd.R_drew)); exact HO_223001.out) hb); have n3_ := Aside0.mk (Kd.R_below (by (with_reducible repeat (first | apply Kd.R_alloc | apply Kd.R_drewN | apply Kd.R_drew)); exact HO_232001.out) hb); have n4_ := Aside0.mk (Kd.R_below (by (with_reducible repeat (first | apply Kd.R_alloc | apply Kd.R_drewN | apply Kd.R_drew)); exact HO236.out) hb); have n5_ := Aside0.mk (Kd.R_below (by (with_reducible repeat (first | apply Kd.R_alloc | apply Kd.R_drewN | apply Kd.R_drew)); exact HO240.out) hb); have n6_ := Aside0.mk (blk_below (g := gb203) (o := .cells #[.int .i64 a0_0, .slice A0_1 l0_1.length c0_1] 37 (0, 0)) (by (with_reducible repeat (first | refine blk_drewN ?_ _ | refine blk_drew ?_ | refine blk_alloc ?_ _)); exact BK203.out) hb); have n7_ := Aside0.mk (blk_below (g := gb217) (o := .cells #[.int .i64 t212, .slice Ao29 t213.length co29] 26 (0, 0)) (by (with_reducible repeat (first | refine blk_drewN ?_ _ | refine blk_drew ?_ | refine blk_alloc ?_ _)); exact BK217.out) hb); have n8_ := Aside0.mk (blk_below (g := gb222) (o := .cells #[.int .i64 t218, .slice Ao36 t219.length co36] 26 (0, 0)) (by (with_reducible repeat (first | refine blk_drewN ?_ _ | refine blk_drew ?_ | refine blk_alloc ?_ _)); exact BK222.out) hb); have n9_ := Aside0.mk (blk_below (g := gb231) (o := .cells #[.int .i64 t226, .slice Ao46 t227.length co46] 26 (0, 0)) (by (with_reducible repeat (first | refine blk_drewN ?_ _ | refine blk_drew ?_ | refine blk_alloc ?_ _)); exact BK231.out) hb); have n10_ := Aside0.mk (below_step (by repeat (first | (with_reducible first | exact HB.out | apply below_alloc | apply pw_below_drewN | apply below_drew1 | refine below_set ?_ GE203.out | refine below_set ?_ GE217.out | refine below_set ?_ GE222.out | refine below_set ?_ GE231.out) | exact HB.out)) hb); clear HO_9; clear HO_218001; clear HO_223001; clear HO_232001; clear HO236; clear HO240; clear BK203; clear BK217; clear BK222; clear BK231; clear HB; have HO_9 := n0_; have HO_218001 := n1_; have HO_223001 := n2_; have HO_232001 := n3_; have HO236 := n4_; have HO240 := n5_; have BK203 := n6_; have BK217 := n7_; have BK222 := n8_; have BK231 := n9_; have HB := n10_; clear n0_ n1_ n2_ n3_ n4_ n5_ n6_ n7_ n8_ n9_ n10_; (try clear hb); (try clear hb2); (try clear hk); (try clear hi)))
           go_meet
           case rel => exact ⟨_, ((t230 != t216)), (by first | rfl | (simp; done) | (simp [*]; done)), H', ⟨by have := HJ15.out; first | omega | exact Nat.le_refl _⟩, ⟨by (with_reducible repeat (first | apply Kd.R_alloc | apply Kd.R_drewN | apply Kd.R_drew)); exact Kd.R_mono HO_218001.out (fun _ hk => ⟨hk.1, hk.2.1⟩)⟩, ⟨by (with_reducible repeat (first | apply Kd.R_alloc | apply Kd.R_drewN | apply Kd.R_drew)); exact Kd.R_mono HO_223001.out (fun _ hk => ⟨hk.1, hk.2.1⟩)⟩, ⟨by (with_reducible repeat (first | apply Kd.R_alloc | apply Kd.R_drewN | apply Kd.R_drew)); exact Kd.R_mono HO_232001.out (fun _ hk => ⟨hk.1, hk.2.1⟩)⟩, ⟨by (with_reducible repeat (first | refine blk_drewN ?_ _ | refine blk_drew ?_ | refine blk_alloc ?_ _)); exact BK203.out⟩, ⟨by (with_reducible repeat (first | refine blk_drewN ?_ _ | refine blk_drew ?_ | refine blk_alloc ?_ _)); exact BK217.out⟩, ⟨by (with_reducible repeat (first | refine blk_drewN ?_ _ | refine blk_drew ?_ | refine blk_alloc ?_ _)); exact BK222.out⟩, ⟨by (with_reducible repeat (first | refine blk_drewN ?_ _ | refine blk_drew ?_ | refine blk_alloc ?_ _)); exact BK231.out⟩, ⟨by repeat (first | (with_reducible first | exact HB.out | apply below_alloc | apply pw_below_drewN | apply below_drew1 | refine below_set ?_ GE203.out | refine below_set ?_ GE217.out | refine below_set ?_ GE222.out | refine below_set ?_ GE231.out) | exact HB.out)⟩⟩
          ·
           replace c89 := Bool.eq_false_iff.mpr c89
           subst c89
           have H1 : (laws_FnExactCutting.j1 kj15 l1 t216 true a0_0 l0_1 t212 t213 t226 t227) = some r := by rw [if_neg (show ¬ (false = true) by decide)] at H; exact H
           clear H
           have H := H1
           clear H1
           have H' := Aside0.mk H
           clear H
           have hnb98 := NB231_203.out
           have hnc98 := NB203_231.out
           have hnb99 := NB231_217.out
           have hnc99 := NB217_231.out
           have hnb100 := NB231_222.out
           have hnc100 := NB222_231.out
           have hcz101_0 : w86.cell? ⟨gb231, 0, none⟩ = some (.int .i64 t226) := (blk_cell BK231.out 0).trans rfl
           have hcz101_1 : w86.cell? ⟨gb231, 1, none⟩ = some (.slice Ao46 t227.length co46) := (blk_cell BK231.out 1).trans rfl
           have hfz101_0 := blk_frozen BK231.out 0
           have hfz101_1 := blk_frozen BK231.out 1
           have hnb102 := NB217_203.out
           have hnc102 := NB203_217.out
           have hnb103 := NB217_222.out
           have hnc103 := NB222_217.out
           have hcz104_0 : w86.cell? ⟨gb217, 0, none⟩ = some (.int .i64 t212) := (blk_cell BK217.out 0).trans rfl
           have hcz104_1 : w86.cell? ⟨gb217, 1, none⟩ = some (.slice Ao29 t213.length co29) := (blk_cell BK217.out 1).trans rfl
           have hfz104_0 := blk_frozen BK217.out 0
           have hfz104_1 := blk_frozen BK217.out 1
           go_wp2_with (first | (go_at_call 21; (with_reducible refine (laws_eqNet.calls kj15 t226 _ _ t227 t212 _ _ t213 false _ ?side1 ?side2 ?side3 ?side4 A88.out).mono ?_); (case side1 => repeat (first | exact (Kd.R_reads' HO_232001.out).2.2 | (with_reducible refine Kd.C_alloc ?_ _) | (with_reducible refine Kd.C_drewN ?_ _) | (with_reducible refine Kd.C_drew ?_))); (case side2 => exact (Kd.R_reads' HO_232001.out).2.1); (case side3 => repeat (first | exact (Kd.R_reads' HO_218001.out).2.2 | (with_reducible refine Kd.C_alloc ?_ _) | (with_reducible refine Kd.C_drewN ?_ _) | (with_reducible refine Kd.C_drew ?_))); (case side4 => exact (Kd.R_reads' HO_218001.out).2.1); rintro e w105 ⟨rfl, hb⟩; have n0_ := Aside0.mk (Kd.R_below (by (with_reducible repeat (first | apply Kd.R_alloc | apply Kd.R_drewN | apply Kd.R_drew)); exact HO_9.out) hb); have n1_ := Aside0.mk (Kd.R_below (by (with_reducible repeat (first | apply Kd.R_alloc | apply Kd.R_drewN | apply Kd.R_drew)); exact HO_218001.out) hb); have n2_ := Aside0.mk (Kd.R_below (by (with_reducible repeat (first | apply Kd.R_alloc | apply Kd.R_drewN | apply Kd.R_drew)); exact HO_223001.out) hb); have n3_ := Aside0.mk (Kd.R_below (by (with_reducible repeat (first | apply Kd.R_alloc | apply Kd.R_drewN | apply Kd.R_drew)); exact HO_232001.out) hb); have n4_ := Aside0.mk (Kd.R_below (by (with_reducible repeat (first | apply Kd.R_alloc | apply Kd.R_drewN | apply Kd.R_drew)); exact HO236.out) hb); have n5_ := Aside0.mk (Kd.R_below (by (with_reducible repeat (first | apply Kd.R_alloc | apply Kd.R_drewN | apply Kd.R_drew)); exact HO240.out) hb); have n6_ := Aside0.mk (blk_below (g := gb203) (o := .cells #[.int .i64 a0_0, .slice A0_1 l0_1.length c0_1] 37 (0, 0)) (by (with_reducible repeat (first | refine blk_drewN ?_ _ | refine blk_drew ?_ | refine blk_alloc ?_ _)); exact BK203.out) hb); have n7_ := Aside0.mk (blk_below (g := gb217) (o := .cells #[.int .i64 t212, .slice Ao29 t213.length co29] 26 (0, 0)) (by (with_reducible repeat (first | refine blk_drewN ?_ _ | refine blk_drew ?_ | refine blk_alloc ?_ _)); exact BK217.out) hb); have n8_ := Aside0.mk (blk_below (g := gb222) (o := .cells #[.int .i64 t218, .slice Ao36 t219.length co36] 26 (0, 0)) (by (with_reducible repeat (first | refine blk_drewN ?_ _ | refine blk_drew ?_ | refine blk_alloc ?_ _)); exact BK222.out) hb); have n9_ := Aside0.mk (blk_below (g := gb231) (o := .cells #[.int .i64 t226, .slice Ao46 t227.length co46] 26 (0, 0)) (by (with_reducible repeat (first | refine blk_drewN ?_ _ | refine blk_drew ?_ | refine blk_alloc ?_ _)); exact BK231.out) hb); have n10_ := Aside0.mk (below_step (by repeat (first | (with_reducible first | exact HB.out | apply below_alloc | apply pw_below_drewN | apply below_drew1 | refine below_set ?_ GE203.out | refine below_set ?_ GE217.out | refine below_set ?_ GE222.out | refine below_set ?_ GE231.out) | exact HB.out)) hb); clear HO_9; clear HO_218001; clear HO_223001; clear HO_232001; clear HO236; clear HO240; clear BK203; clear BK217; clear BK222; clear BK231; clear HB; have HO_9 := n0_; have HO_218001 := n1_; have HO_223001 := n2_; have HO_232001 := n3_; have HO236 := n4_; have HO240 := n5_; have BK203 := n6_; have BK217 := n7_; have BK222 := n8_; have BK231 := n9_; have HB := n10_; clear n0_ n1_ n2_ n3_ n4_ n5_ n6_ n7_ n8_ n9_ n10_; (try clear hb); (try clear hb2); (try clear hk); (try clear hi)))
           go_meet
           case rel => exact ⟨_, (true), (by first | rfl | (simp; done) | (simp [*]; done)), H', ⟨by have := HJ15.out; first | omega | exact Nat.le_refl _⟩, ⟨by (with_reducible repeat (first | apply Kd.R_alloc | apply Kd.R_drewN | apply Kd.R_drew)); exact Kd.R_mono HO_218001.out (fun _ hk => ⟨hk.1, hk.2.1⟩)⟩, ⟨by (with_reducible repeat (first | apply Kd.R_alloc | apply Kd.R_drewN | apply Kd.R_drew)); exact Kd.R_mono HO_223001.out (fun _ hk => ⟨hk.1, hk.2.1⟩)⟩, ⟨by (with_reducible repeat (first | apply Kd.R_alloc | apply Kd.R_drewN | apply Kd.R_drew)); exact Kd.R_mono HO_232001.out (fun _ hk => ⟨hk.1, hk.2.1⟩)⟩, ⟨by (with_reducible repeat (first | refine blk_drewN ?_ _ | refine blk_drew ?_ | refine blk_alloc ?_ _)); exact BK203.out⟩, ⟨by (with_reducible repeat (first | refine blk_drewN ?_ _ | refine blk_drew ?_ | refine blk_alloc ?_ _)); exact BK217.out⟩, ⟨by (with_reducible repeat (first | refine blk_drewN ?_ _ | refine blk_drew ?_ | refine blk_alloc ?_ _)); exact BK222.out⟩, ⟨by (with_reducible repeat (first | refine blk_drewN ?_ _ | refine blk_drew ?_ | refine blk_alloc ?_ _)); exact BK231.out⟩, ⟨by repeat (first | (with_reducible first | exact HB.out | apply below_alloc | apply pw_below_drewN | apply below_drew1 | refine below_set ?_ GE203.out | refine below_set ?_ GE217.out | refine below_set ?_ GE222.out | refine below_set ?_ GE231.out) | exact HB.out)⟩⟩
        case rest =>
         clear HC74
         try clear c1
         try clear c2
         try clear p2
         try clear c3
         try clear c3b0
         try clear c3b1
         try clear c4
         try clear c5
         try clear c6
         try clear c6b0
         try clear c7
         try clear c8
         try clear c9
         try clear c10
         try clear c14
         try clear c15
         try clear c17
         try clear c19
         try clear c21
         try clear c23
         try clear c27
         try clear c30
         try clear c31
         try clear c32
         try clear c33
         try clear c34
         try clear c42
         try clear c43
         try clear c44
         try clear c48
         try clear c49
         try clear c50
         try clear c51
         try clear c53
         try clear c54
         try clear c57
         try clear c58
         try clear c59
         try clear c61
         try clear c62
         try clear c65
         try clear c68
         try clear c71
         try clear c81
         try clear c82
         try clear c83
         try clear c87
         try clear c87b0
         try clear c89
         try clear c90
         try clear c91
         try clear c92
         try clear c94
         try clear c95
         try clear c98
         try clear c99
         try clear c100
         try clear c102
         try clear c103
         try clear hcz101_0
         try clear hcz101_1
         try clear hcz104_0
         try clear hcz104_1
         try clear hcz18_0
         try clear hcz18_1
         try clear hcz20_0
         try clear hcz20_1
         try clear hcz28_0
         try clear hcz28_1
         try clear hcz30_0
         try clear hcz30_1
         try clear hcz35_0
         try clear hcz35_1
         try clear hcz38_0
         try clear hcz38_1
         try clear hcz45_0
         try clear hcz45_1
         try clear hcz52_0
         try clear hcz52_1
         try clear hcz55_0
         try clear hcz55_1
         try clear hcz60_0
         try clear hcz60_1
         try clear hcz63_0
         try clear hcz63_1
         try clear hcz84_0
         try clear hcz84_1
         try clear hcz8_0
         try clear hcz8_1
         try clear hcz93_0
         try clear hcz93_1
         try clear hcz96_0
         try clear hcz96_1
         try clear hfz101_0
         try clear hfz101_1
         try clear hfz104_0
         try clear hfz104_1
         try clear hfz18_0
         try clear hfz18_1
         try clear hfz20_0
         try clear hfz20_1
         try clear hfz28_0
         try clear hfz28_1
         try clear hfz30_0
         try clear hfz30_1
         try clear hfz35_0
         try clear hfz35_1
         try clear hfz38_0
         try clear hfz38_1
         try clear hfz45_0
         try clear hfz45_1
         try clear hfz52_0
         try clear hfz52_1
         try clear hfz55_0
         try clear hfz55_1
         try clear hfz60_0
         try clear hfz60_1
         try clear hfz63_0
         try clear hfz63_1
         try clear hfz84_0
         try clear hfz84_1
         try clear hfz8_0
         try clear hfz8_1
         try clear hfz93_0
         try clear hfz93_1
         try clear hfz96_0
         try clear hfz96_1
         try clear p2
         obtain ⟨kq, x80_73, rfl, HA, HJ73, HO_218001, HO_223001, HO_232001, BK203, BK217, BK222, BK231, HB⟩ := hcut
         have hl223001_73 := (Kd.R_reads' HO_223001.out).1
         rw [hl223001_73] at HO_223001
         (try simp only [hl223001_73])
         (try simp only [hl223001_73] at BK203)
         (try simp only [hl223001_73] at BK217)
         (try simp only [hl223001_73] at BK222)
         (try simp only [hl223001_73] at BK231)
         (try simp only [hl223001_73] at HO_218001)
         (try simp only [hl223001_73] at HO_232001)
         cases kq with
         | zero => exact absurd HA.out (by simp [laws_FnExactCutting.j1])
         | succ kj73 =>
          have H := HA.out
          clear HA
          simp only [laws_FnExactCutting.j1] at H
          by_cases c106 : x80_73 = true
          ·
           subst c106
           have H1 : (some false) = some r := by rw [if_pos rfl] at H; exact H
           clear H
           have H := H1
           clear H1
           obtain rfl := Option.some.inj H
           go_wp2
           go_ret
           exact ⟨by first | rfl | (simp [errW_none, errW_some] <;> rfl) | (simp [*, errW_none, errW_some] <;> rfl), by repeat (first | (with_reducible first | exact HB.out | apply below_alloc | apply pw_below_drewN | apply below_drew1 | refine below_set ?_ GE203.out | refine below_set ?_ GE217.out | refine below_set ?_ GE222.out | refine below_set ?_ GE231.out) | exact HB.out)⟩
          ·
           replace c106 := Bool.eq_false_iff.mpr c106
           subst c106
           have H1 : ((laws_markNet.f kj73 t226 t227 1).bind fun bt247 => ((laws_heldNet.f kj73 t226 bt247.2 1).bind fun t249 => (if t249 < 0 then (some false) else (if t249 = bt247.1 then ((laws_toNet.f kj73 a0_0 l0_1).bind fun bt250 => ((laws_toInt64S.f kj73 l1).bind fun t254 => ((impl_Cutting.f kj73 bt250.1 bt250.2 t254).bind fun bt257 => ((laws_eqNet.f kj73 bt257.1 bt257.2.1 t212 t213).bind fun t263 => (if t263 = true then (laws_FnExactCutting.j2 kj73 bt247.1 (bt257.2.2 != t216) t226 bt247.2) else (laws_FnExactCutting.j2 kj73 bt247.1 true t226 bt247.2)))))) else (some false))))) = some r := by rw [if_neg (show ¬ (false = true) by decide)] at H; exact H
           clear H
           have H := H1
           clear H1
           replace H := Option.bind_eq_some_iff.mp H
           obtain ⟨⟨t247, t248⟩, A1070, H⟩ := H
           replace H : ((laws_heldNet.f kj73 t226 t248 1).bind fun t249 => (if t249 < 0 then (some false) else (if t249 = t247 then ((laws_toNet.f kj73 a0_0 l0_1).bind fun bt250 => ((laws_toInt64S.f kj73 l1).bind fun t254 => ((impl_Cutting.f kj73 bt250.1 bt250.2 t254).bind fun bt257 => ((laws_eqNet.f kj73 bt257.1 bt257.2.1 t212 t213).bind fun t263 => (if t263 = true then (laws_FnExactCutting.j2 kj73 t247 (bt257.2.2 != t216) t226 t248) else (laws_FnExactCutting.j2 kj73 t247 true t226 t248)))))) else (some false)))) = some r := H
           have A107 := Aside0.mk A1070
           clear A1070
           replace H := Option.bind_eq_some_iff.mp H
           obtain ⟨t249, A1080, H⟩ := H
           replace H : (if t249 < 0 then (some false) else (if t249 = t247 then ((laws_toNet.f kj73 a0_0 l0_1).bind fun bt250 => ((laws_toInt64S.f kj73 l1).bind fun t254 => ((impl_Cutting.f kj73 bt250.1 bt250.2 t254).bind fun bt257 => ((laws_eqNet.f kj73 bt257.1 bt257.2.1 t212 t213).bind fun t263 => (if t263 = true then (laws_FnExactCutting.j2 kj73 t247 (bt257.2.2 != t216) t226 t248) else (laws_FnExactCutting.j2 kj73 t247 true t226 t248)))))) else (some false))) = some r := H
           have A108 := Aside0.mk A1080
           clear A1080
           by_cases c109 : t249 < 0
           ·
            rw [if_pos c109] at H
            have c109b0 : decide (t249 < 0) = true := decide_eq_true c109
            clear c109
            obtain rfl := Option.some.inj H
            have hnb110 := NB231_203.out
            have hnc110 := NB203_231.out
            have hnb111 := NB231_217.out
            have hnc111 := NB217_231.out
            have hnb112 := NB231_222.out
            have hnc112 := NB222_231.out
            have hcz113_0 : wc.cell? ⟨gb231, 0, none⟩ = some (.int .i64 t226) := (blk_cell BK231.out 0).trans rfl
            have hcz113_1 : wc.cell? ⟨gb231, 1, none⟩ = some (.slice Ao46 t227.length co46) := (blk_cell BK231.out 1).trans rfl
            have hfz113_0 := blk_frozen BK231.out 0
            have hfz113_1 := blk_frozen BK231.out 1
            go_wp2_with (first | ((with_reducible refine gate_callee (f := 23) rfl ?_); refine goesL_ (some 83) rfl rfl Try.func23 (by kernel_rfl) rfl #[.agg #[.int .i64 t226, .slice Ao46 t227.length co46], .int .i64 1] rfl (by (try simp only [List.map_toArray, List.map_cons, List.map_nil]); first | done | rfl | (simp only [List.length_drop, List.length_take]; rfl)) ?_; (with_reducible refine (laws_markNet.calls kj73 t226 (fun k_ => some k_ = (.slice Ao46 t227.length co46 : Value).ownBlock) (.slice Ao46 t227.length co46) t227 1 t247 t248 w _ ?side1 ?side2 A107.out).mono ?_); (case side1 => repeat (first | (with_reducible first | exact HB.out | apply below_alloc | apply pw_below_drewN | apply below_drew1 | refine below_set ?_ GE203.out | refine below_set ?_ GE217.out | refine below_set ?_ GE222.out | refine below_set ?_ GE231.out) | exact HB.out)); (case side2 => exact Kd.R_tight rfl HO_232001.out); rintro e w114 ⟨rfl, hy0, hb, hkp⟩; refine ⟨_, rfl, ?_⟩; have n0_ := Aside0.mk (Kd.R_mono (ok' := fun k_ => some k_ ≠ (.slice Ao36 t243.length co36 : Value).ownBlock ∧ some k_ ≠ (.slice Ao46 t227.length co46 : Value).ownBlock) (Kd.R_keptB (HO_218001.out) hkp (fun k_ hk_ hs_ => by first | exact (hk_.2) hs_ | simp_all)) (fun k_ hk_ => by first | exact ⟨hk_.1.1, hk_.1.2⟩ | simp_all)); have n1_ := Aside0.mk (Kd.R_mono (ok' := fun k_ => some k_ ≠ (.slice Ao29 t213.length co29 : Value).ownBlock ∧ some k_ ≠ (.slice Ao46 t227.length co46 : Value).ownBlock) (Kd.R_keptB (HO_223001.out) hkp (fun k_ hk_ hs_ => by first | exact (hk_.2) hs_ | simp_all)) (fun k_ hk_ => by first | exact ⟨hk_.1.1, hk_.1.2⟩ | simp_all)); have n2_ := Aside0.mk (Kd.R_reok rfl hy0 (fun k_ e_ => HO_232001.out.1 k_ e_)); have n3_ := Aside0.mk (blk_kept (by first | with_reducible exact BK203.out | exact blk_drewN BK203.out _ | exact blk_drewN (blk_drewN BK203.out _) _ | ((with_reducible repeat (first | refine blk_drewN ?_ _ | refine blk_drew ?_ | refine blk_alloc ?_ _)); exact BK203.out)) hkp (fun hs_ => (fun e_ => (Kd.R_ne HO_232001.out BK203.out (by decide)) e_) hs_)); have n4_ := Aside0.mk (blk_kept (by first | with_reducible exact BK217.out | exact blk_drewN BK217.out _ | exact blk_drewN (blk_drewN BK217.out _) _ | ((with_reducible repeat (first | refine blk_drewN ?_ _ | refine blk_drew ?_ | refine blk_alloc ?_ _)); exact BK217.out)) hkp (fun hs_ => (fun e_ => (Kd.R_ne HO_232001.out BK217.out (by decide)) e_) hs_)); have n5_ := Aside0.mk (blk_kept (by first | with_reducible exact BK222.out | exact blk_drewN BK222.out _ | exact blk_drewN (blk_drewN BK222.out _) _ | ((with_reducible repeat (first | refine blk_drewN ?_ _ | refine blk_drew ?_ | refine blk_alloc ?_ _)); exact BK222.out)) hkp (fun hs_ => (fun e_ => (Kd.R_ne HO_232001.out BK222.out (by decide)) e_) hs_)); have n6_ := Aside0.mk (blk_kept (by first | with_reducible exact BK231.out | exact blk_drewN BK231.out _ | exact blk_drewN (blk_drewN BK231.out _) _ | ((with_reducible repeat (first | refine blk_drewN ?_ _ | refine blk_drew ?_ | refine blk_alloc ?_ _)); exact BK231.out)) hkp (fun hs_ => (fun e_ => (Kd.R_ne HO_232001.out BK231.out (by decide)) e_) hs_)); have n7_ := Aside0.mk (hb); clear HO_218001; clear HO_223001; clear HO_232001; clear BK203; clear BK217; clear BK222; clear BK231; clear HB; have HO_218001 := n0_; have HO_223001 := n1_; have HO_232001 := n2_; have BK203 := n3_; have BK217 := n4_; have BK222 := n5_; have BK231 := n6_; have HB := n7_; clear n0_ n1_ n2_ n3_ n4_ n5_ n6_ n7_; (try clear hb); (try clear hkp); (try clear hy0); have hcz115_0 : w114.cell? ⟨gb231, 0, none⟩ = some (.int .i64 t226) := (blk_cell BK231.out 0).trans rfl; have hcz115_1 : w114.cell? ⟨gb231, 1, none⟩ = some (.slice Ao46 t227.length co46) := (blk_cell BK231.out 1).trans rfl; have hfz115_0 := blk_frozen BK231.out 0; have hfz115_1 := blk_frozen BK231.out 1) | ((with_reducible refine gate_callee (f := 24) rfl ?_); refine goesL_ (some 86) rfl rfl Try.func24 (by kernel_rfl) rfl #[.agg #[.int .i64 t226, .slice Ao46 t248.length co46], .int .i64 1] rfl (by (try simp only [List.map_toArray, List.map_cons, List.map_nil]); first | done | (rw [show t248.length = t227.length from (Kd.R_reads' HO_232001.out).1.symm] <;> rfl) | rfl | (simp only [List.length_drop, List.length_take]; rfl)) ?_; (with_reducible refine (laws_heldNet.calls kj73 t226 _ _ t248 1 t249 _ ?side1 ?side2 A108.out).mono ?_); (case side1 => repeat (first | exact (Kd.R_reads' HO_232001.out).2.2 | (with_reducible refine Kd.C_alloc ?_ _) | (with_reducible refine Kd.C_drewN ?_ _) | (with_reducible refine Kd.C_drew ?_))); (case side2 => rw [show t248.length = t227.length from (Kd.R_reads' HO_232001.out).1.symm]; exact (Kd.R_reads' HO_232001.out).2.1); rintro e w116 ⟨rfl, hb⟩; refine ⟨_, rfl, ?_⟩; have n0_ := Aside0.mk (Kd.R_below (by (with_reducible repeat (first | apply Kd.R_alloc | apply Kd.R_drewN | apply Kd.R_drew)); exact HO_218001.out) hb); have n1_ := Aside0.mk (Kd.R_below (by (with_reducible repeat (first | apply Kd.R_alloc | apply Kd.R_drewN | apply Kd.R_drew)); exact HO_223001.out) hb); have n2_ := Aside0.mk (Kd.R_below (by (with_reducible repeat (first | apply Kd.R_alloc | apply Kd.R_drewN | apply Kd.R_drew)); exact HO_232001.out) hb); have n3_ := Aside0.mk (blk_below (g := gb203) (o := .cells #[.int .i64 a0_0, .slice A0_1 l0_1.length c0_1] 37 (0, 0)) (by (with_reducible repeat (first | refine blk_drewN ?_ _ | refine blk_drew ?_ | refine blk_alloc ?_ _)); exact BK203.out) hb); have n4_ := Aside0.mk (blk_below (g := gb217) (o := .cells #[.int .i64 t212, .slice Ao29 t213.length co29] 26 (0, 0)) (by (with_reducible repeat (first | refine blk_drewN ?_ _ | refine blk_drew ?_ | refine blk_alloc ?_ _)); exact BK217.out) hb); have n5_ := Aside0.mk (blk_below (g := gb222) (o := .cells #[.int .i64 t218, .slice Ao36 t243.length co36] 26 (0, 0)) (by (with_reducible repeat (first | refine blk_drewN ?_ _ | refine blk_drew ?_ | refine blk_alloc ?_ _)); exact BK222.out) hb); have n6_ := Aside0.mk (blk_below (g := gb231) (o := .cells #[.int .i64 t226, .slice Ao46 t227.length co46] 26 (0, 0)) (by (with_reducible repeat (first | refine blk_drewN ?_ _ | refine blk_drew ?_ | refine blk_alloc ?_ _)); exact BK231.out) hb); have n7_ := Aside0.mk (below_step (by repeat (first | (with_reducible first | exact HB.out | apply below_alloc | apply pw_below_drewN | apply below_drew1 | refine below_set ?_ GE203.out | refine below_set ?_ GE217.out | refine below_set ?_ GE222.out | refine below_set ?_ GE231.out) | exact HB.out)) hb); clear HO_218001; clear HO_223001; clear HO_232001; clear BK203; clear BK217; clear BK222; clear BK231; clear HB; have HO_218001 := n0_; have HO_223001 := n1_; have HO_232001 := n2_; have BK203 := n3_; have BK217 := n4_; have BK222 := n5_; have BK231 := n6_; have HB := n7_; clear n0_ n1_ n2_ n3_ n4_ n5_ n6_ n7_; (try clear hb); (try clear hb2); (try clear hk); (try clear hi)))
            go_ret
            exact ⟨by first | rfl | (simp [errW_none, errW_some] <;> rfl) | (simp [*, errW_none, errW_some] <;> rfl), by repeat (first | (with_reducible first | exact HB.out | apply below_alloc | apply pw_below_drewN | apply below_drew1 | refine below_set ?_ GE203.out | refine below_set ?_ GE217.out | refine below_set ?_ GE222.out | refine below_set ?_ GE231.out) | exact HB.out)⟩
           ·
            rw [if_neg c109] at H
            have c109b0 : decide (t249 < 0) = false := decide_eq_false c109
            clear c109
            by_cases c117 : t249 = t247
            ·
             rw [if_pos c117] at H
             have c117b0 : (t249 == t247) = true := beq_iff_eq.mpr c117
             have c117b1 : (t249 != t247) = false := bne_eq_false_iff_eq.mpr c117
             clear c117
             replace H := Option.bind_eq_some_iff.mp H
             obtain ⟨⟨t250, t251⟩, A1180, H⟩ := H
             replace H : ((laws_toInt64S.f kj73 l1).bind fun t254 => ((impl_Cutting.f kj73 t250 t251 t254).bind fun bt257 => ((laws_eqNet.f kj73 bt257.1 bt257.2.1 t212 t213).bind fun t263 => (if t263 = true then (laws_FnExactCutting.j2 kj73 t247 (bt257.2.2 != t216) t226 t248) else (laws_FnExactCutting.j2 kj73 t247 true t226 t248))))) = some r := H
             have A118 := Aside0.mk A1180
             clear A1180
             replace H := Option.bind_eq_some_iff.mp H
             obtain ⟨t254, A1190, H⟩ := H
             replace H : ((impl_Cutting.f kj73 t250 t251 t254).bind fun bt257 => ((laws_eqNet.f kj73 bt257.1 bt257.2.1 t212 t213).bind fun t263 => (if t263 = true then (laws_FnExactCutting.j2 kj73 t247 (bt257.2.2 != t216) t226 t248) else (laws_FnExactCutting.j2 kj73 t247 true t226 t248)))) = some r := H
             have A119 := Aside0.mk A1190
             clear A1190
             replace H := Option.bind_eq_some_iff.mp H
             obtain ⟨⟨t257, t258, t261⟩, A1200, H⟩ := H
             replace H : ((laws_eqNet.f kj73 t257 t258 t212 t213).bind fun t263 => (if t263 = true then (laws_FnExactCutting.j2 kj73 t247 (t261 != t216) t226 t248) else (laws_FnExactCutting.j2 kj73 t247 true t226 t248))) = some r := H
             have A120 := Aside0.mk A1200
             clear A1200
             have HC121 := Aside0.mk H
             clear H
             have hnb122 := NB231_203.out
             have hnc122 := NB203_231.out
             have hnb123 := NB231_217.out
             have hnc123 := NB217_231.out
             have hnb124 := NB231_222.out
             have hnc124 := NB222_231.out
             have hcz125_0 : wc.cell? ⟨gb231, 0, none⟩ = some (.int .i64 t226) := (blk_cell BK231.out 0).trans rfl
             have hcz125_1 : wc.cell? ⟨gb231, 1, none⟩ = some (.slice Ao46 t227.length co46) := (blk_cell BK231.out 1).trans rfl
             have hfz125_0 := blk_frozen BK231.out 0
             have hfz125_1 := blk_frozen BK231.out 1
             go_upto_region 31 with (first | ((with_reducible refine gate_callee (f := 23) rfl ?_); refine goesL_ (some 83) rfl rfl Try.func23 (by kernel_rfl) rfl #[.agg #[.int .i64 t226, .slice Ao46 t227.length co46], .int .i64 1] rfl (by (try simp only [List.map_toArray, List.map_cons, List.map_nil]); first | done | rfl | (simp only [List.length_drop, List.length_take]; rfl)) ?_; (with_reducible refine (laws_markNet.calls kj73 t226 (fun k_ => some k_ = (.slice Ao46 t227.length co46 : Value).ownBlock) (.slice Ao46 t227.length co46) t227 1 t247 t248 w _ ?side1 ?side2 A107.out).mono ?_); (case side1 => repeat (first | (with_reducible first | exact HB.out | apply below_alloc | apply pw_below_drewN | apply below_drew1 | refine below_set ?_ GE203.out | refine below_set ?_ GE217.out | refine below_set ?_ GE222.out | refine below_set ?_ GE231.out) | exact HB.out)); (case side2 => exact Kd.R_tight rfl HO_232001.out); rintro e w126 ⟨rfl, hy0, hb, hkp⟩; refine ⟨_, rfl, ?_⟩; have n0_ := Aside0.mk (Kd.R_mono (ok' := fun k_ => some k_ ≠ (.slice Ao36 t243.length co36 : Value).ownBlock ∧ some k_ ≠ (.slice Ao46 t227.length co46 : Value).ownBlock) (Kd.R_keptB (HO_218001.out) hkp (fun k_ hk_ hs_ => by first | exact (hk_.2) hs_ | simp_all)) (fun k_ hk_ => by first | exact ⟨hk_.1.1, hk_.1.2⟩ | simp_all)); have n1_ := Aside0.mk (Kd.R_mono (ok' := fun k_ => some k_ ≠ (.slice Ao29 t213.length co29 : Value).ownBlock ∧ some k_ ≠ (.slice Ao46 t227.length co46 : Value).ownBlock) (Kd.R_keptB (HO_223001.out) hkp (fun k_ hk_ hs_ => by first | exact (hk_.2) hs_ | simp_all)) (fun k_ hk_ => by first | exact ⟨hk_.1.1, hk_.1.2⟩ | simp_all)); have n2_ := Aside0.mk (Kd.R_reok rfl hy0 (fun k_ e_ => HO_232001.out.1 k_ e_)); have n3_ := Aside0.mk (blk_kept (by first | with_reducible exact BK203.out | exact blk_drewN BK203.out _ | exact blk_drewN (blk_drewN BK203.out _) _ | ((with_reducible repeat (first | refine blk_drewN ?_ _ | refine blk_drew ?_ | refine blk_alloc ?_ _)); exact BK203.out)) hkp (fun hs_ => (fun e_ => (Kd.R_ne HO_232001.out BK203.out (by decide)) e_) hs_)); have n4_ := Aside0.mk (blk_kept (by first | with_reducible exact BK217.out | exact blk_drewN BK217.out _ | exact blk_drewN (blk_drewN BK217.out _) _ | ((with_reducible repeat (first | refine blk_drewN ?_ _ | refine blk_drew ?_ | refine blk_alloc ?_ _)); exact BK217.out)) hkp (fun hs_ => (fun e_ => (Kd.R_ne HO_232001.out BK217.out (by decide)) e_) hs_)); have n5_ := Aside0.mk (blk_kept (by first | with_reducible exact BK222.out | exact blk_drewN BK222.out _ | exact blk_drewN (blk_drewN BK222.out _) _ | ((with_reducible repeat (first | refine blk_drewN ?_ _ | refine blk_drew ?_ | refine blk_alloc ?_ _)); exact BK222.out)) hkp (fun hs_ => (fun e_ => (Kd.R_ne HO_232001.out BK222.out (by decide)) e_) hs_)); have n6_ := Aside0.mk (blk_kept (by first | with_reducible exact BK231.out | exact blk_drewN BK231.out _ | exact blk_drewN (blk_drewN BK231.out _) _ | ((with_reducible repeat (first | refine blk_drewN ?_ _ | refine blk_drew ?_ | refine blk_alloc ?_ _)); exact BK231.out)) hkp (fun hs_ => (fun e_ => (Kd.R_ne HO_232001.out BK231.out (by decide)) e_) hs_)); have n7_ := Aside0.mk (hb); clear HO_218001; clear HO_223001; clear HO_232001; clear BK203; clear BK217; clear BK222; clear BK231; clear HB; have HO_218001 := n0_; have HO_223001 := n1_; have HO_232001 := n2_; have BK203 := n3_; have BK217 := n4_; have BK222 := n5_; have BK231 := n6_; have HB := n7_; clear n0_ n1_ n2_ n3_ n4_ n5_ n6_ n7_; (try clear hb); (try clear hkp); (try clear hy0); have hcz127_0 : w126.cell? ⟨gb231, 0, none⟩ = some (.int .i64 t226) := (blk_cell BK231.out 0).trans rfl; have hcz127_1 : w126.cell? ⟨gb231, 1, none⟩ = some (.slice Ao46 t227.length co46) := (blk_cell BK231.out 1).trans rfl; have hfz127_0 := blk_frozen BK231.out 0; have hfz127_1 := blk_frozen BK231.out 1) | ((with_reducible refine gate_callee (f := 24) rfl ?_); refine goesL_ (some 86) rfl rfl Try.func24 (by kernel_rfl) rfl #[.agg #[.int .i64 t226, .slice Ao46 t248.length co46], .int .i64 1] rfl (by (try simp only [List.map_toArray, List.map_cons, List.map_nil]); first | done | (rw [show t248.length = t227.length from (Kd.R_reads' HO_232001.out).1.symm] <;> rfl) | rfl | (simp only [List.length_drop, List.length_take]; rfl)) ?_; (with_reducible refine (laws_heldNet.calls kj73 t226 _ _ t248 1 t249 _ ?side1 ?side2 A108.out).mono ?_); (case side1 => repeat (first | exact (Kd.R_reads' HO_232001.out).2.2 | (with_reducible refine Kd.C_alloc ?_ _) | (with_reducible refine Kd.C_drewN ?_ _) | (with_reducible refine Kd.C_drew ?_))); (case side2 => rw [show t248.length = t227.length from (Kd.R_reads' HO_232001.out).1.symm]; exact (Kd.R_reads' HO_232001.out).2.1); rintro e w128 ⟨rfl, hb⟩; refine ⟨_, rfl, ?_⟩; have n0_ := Aside0.mk (Kd.R_below (by (with_reducible repeat (first | apply Kd.R_alloc | apply Kd.R_drewN | apply Kd.R_drew)); exact HO_218001.out) hb); have n1_ := Aside0.mk (Kd.R_below (by (with_reducible repeat (first | apply Kd.R_alloc | apply Kd.R_drewN | apply Kd.R_drew)); exact HO_223001.out) hb); have n2_ := Aside0.mk (Kd.R_below (by (with_reducible repeat (first | apply Kd.R_alloc | apply Kd.R_drewN | apply Kd.R_drew)); exact HO_232001.out) hb); have n3_ := Aside0.mk (blk_below (g := gb203) (o := .cells #[.int .i64 a0_0, .slice A0_1 l0_1.length c0_1] 37 (0, 0)) (by (with_reducible repeat (first | refine blk_drewN ?_ _ | refine blk_drew ?_ | refine blk_alloc ?_ _)); exact BK203.out) hb); have n4_ := Aside0.mk (blk_below (g := gb217) (o := .cells #[.int .i64 t212, .slice Ao29 t213.length co29] 26 (0, 0)) (by (with_reducible repeat (first | refine blk_drewN ?_ _ | refine blk_drew ?_ | refine blk_alloc ?_ _)); exact BK217.out) hb); have n5_ := Aside0.mk (blk_below (g := gb222) (o := .cells #[.int .i64 t218, .slice Ao36 t243.length co36] 26 (0, 0)) (by (with_reducible repeat (first | refine blk_drewN ?_ _ | refine blk_drew ?_ | refine blk_alloc ?_ _)); exact BK222.out) hb); have n6_ := Aside0.mk (blk_below (g := gb231) (o := .cells #[.int .i64 t226, .slice Ao46 t227.length co46] 26 (0, 0)) (by (with_reducible repeat (first | refine blk_drewN ?_ _ | refine blk_drew ?_ | refine blk_alloc ?_ _)); exact BK231.out) hb); have n7_ := Aside0.mk (below_step (by repeat (first | (with_reducible first | exact HB.out | apply below_alloc | apply pw_below_drewN | apply below_drew1 | refine below_set ?_ GE203.out | refine below_set ?_ GE217.out | refine below_set ?_ GE222.out | refine below_set ?_ GE231.out) | exact HB.out)) hb); clear HO_218001; clear HO_223001; clear HO_232001; clear BK203; clear BK217; clear BK222; clear BK231; clear HB; have HO_218001 := n0_; have HO_223001 := n1_; have HO_232001 := n2_; have BK203 := n3_; have BK217 := n4_; have BK222 := n5_; have BK231 := n6_; have HB := n7_; clear n0_ n1_ n2_ n3_ n4_ n5_ n6_ n7_; (try clear hb); (try clear hb2); (try clear hk); (try clear hi); have hnb129 := NB203_217.out; have hnc129 := NB217_203.out; have hnb130 := NB203_222.out; have hnc130 := NB222_203.out; have hcz131_0 : w128.cell? ⟨gb203, 0, none⟩ = some (.int .i64 a0_0) := (blk_cell BK203.out 0).trans rfl; have hcz131_1 : w128.cell? ⟨gb203, 1, none⟩ = some (.slice A0_1 l0_1.length c0_1) := (blk_cell BK203.out 1).trans rfl; have hfz131_0 := blk_frozen BK203.out 0; have hfz131_1 := blk_frozen BK203.out 1) | ((with_reducible refine gate_callee (f := 19) rfl ?_); refine goesL_ (some 94) rfl rfl Try.func19 (by kernel_rfl) rfl #[.agg #[.int .i64 a0_0, .slice A0_1 l0_1.length c0_1]] rfl (by (try simp only [List.map_toArray, List.map_cons, List.map_nil]); first | done | rfl | (simp only [List.length_drop, List.length_take]; rfl)) ?_; (with_reducible refine (laws_toNet.calls kj73 a0_0 _ _ l0_1 t250 t251 _ ?side1 ?side2 A118.out).mono ?_); (case side1 => repeat (first | exact (Kd.C_below HR0_1.out HB.out) | (with_reducible refine Kd.C_alloc ?_ _) | (with_reducible refine Kd.C_drewN ?_ _) | (with_reducible refine Kd.C_drew ?_))); (case side2 => exact HC0_1.out); rintro e w132 ⟨v252, rfl, ho0, hb⟩; refine ⟨_, rfl, ?_⟩; have n0_ := Aside0.mk (Kd.R_elder' (by (with_reducible repeat (first | apply Kd.R_alloc | apply Kd.R_drewN | apply Kd.R_drew)); exact HO_218001.out) (Kd.R_base ho0) hb); have n1_ := Aside0.mk (Kd.R_elder' (by (with_reducible repeat (first | apply Kd.R_alloc | apply Kd.R_drewN | apply Kd.R_drew)); exact HO_223001.out) (Kd.R_base ho0) hb); have n2_ := Aside0.mk (Kd.R_elder' (by (with_reducible repeat (first | apply Kd.R_alloc | apply Kd.R_drewN | apply Kd.R_drew)); exact HO_232001.out) (Kd.R_base ho0) hb); have n3_ := Aside0.mk (Kd.R_lower (Kd.R_new' (Kd.R_new' (Kd.R_new' ho0 (Kd.R_lt (by (with_reducible repeat (first | apply Kd.R_alloc | apply Kd.R_drewN | apply Kd.R_drew)); exact HO_218001.out))) (Kd.R_lt (by (with_reducible repeat (first | apply Kd.R_alloc | apply Kd.R_drewN | apply Kd.R_drew)); exact HO_223001.out))) (Kd.R_lt (by (with_reducible repeat (first | apply Kd.R_alloc | apply Kd.R_drewN | apply Kd.R_drew)); exact HO_232001.out))) (below_size (by repeat (first | (with_reducible first | exact HB.out | apply below_alloc | apply pw_below_drewN | apply below_drew1 | refine below_set ?_ GE203.out | refine below_set ?_ GE217.out | refine below_set ?_ GE222.out | refine below_set ?_ GE231.out) | exact HB.out)))); have n4_ := Aside0.mk (blk_below (g := gb203) (o := .cells #[.int .i64 a0_0, .slice A0_1 l0_1.length c0_1] 37 (0, 0)) (by (with_reducible repeat (first | refine blk_drewN ?_ _ | refine blk_drew ?_ | refine blk_alloc ?_ _)); exact BK203.out) hb); have n5_ := Aside0.mk (blk_below (g := gb217) (o := .cells #[.int .i64 t212, .slice Ao29 t213.length co29] 26 (0, 0)) (by (with_reducible repeat (first | refine blk_drewN ?_ _ | refine blk_drew ?_ | refine blk_alloc ?_ _)); exact BK217.out) hb); have n6_ := Aside0.mk (blk_below (g := gb222) (o := .cells #[.int .i64 t218, .slice Ao36 t243.length co36] 26 (0, 0)) (by (with_reducible repeat (first | refine blk_drewN ?_ _ | refine blk_drew ?_ | refine blk_alloc ?_ _)); exact BK222.out) hb); have n7_ := Aside0.mk (blk_below (g := gb231) (o := .cells #[.int .i64 t226, .slice Ao46 t227.length co46] 26 (0, 0)) (by (with_reducible repeat (first | refine blk_drewN ?_ _ | refine blk_drew ?_ | refine blk_alloc ?_ _)); exact BK231.out) hb); have n8_ := Aside0.mk (below_step (by repeat (first | (with_reducible first | exact HB.out | apply below_alloc | apply pw_below_drewN | apply below_drew1 | refine below_set ?_ GE203.out | refine below_set ?_ GE217.out | refine below_set ?_ GE222.out | refine below_set ?_ GE231.out) | exact HB.out)) hb); clear HO_218001; clear HO_223001; clear HO_232001; clear BK203; clear BK217; clear BK222; clear BK231; clear HB; have HO_218001 := n0_; have HO_223001 := n1_; have HO_232001 := n2_; have HO253 := n3_; have BK203 := n4_; have BK217 := n5_; have BK222 := n6_; have BK231 := n7_; have HB := n8_; clear n0_ n1_ n2_ n3_ n4_ n5_ n6_ n7_ n8_; (try clear hb); (try clear hb2); (try clear hk); (try clear hi); (try clear ho0)) | ((with_reducible refine gate_callee (f := 30) rfl ?_); refine goesL_ (some 96) rfl rfl Try.func30 (by kernel_rfl) rfl #[.slice A1 l1.length c1] rfl (by (try simp only [List.map_toArray, List.map_cons, List.map_nil]); first | done | rfl | (simp only [List.length_drop, List.length_take]; rfl)) ?_; (with_reducible refine (laws_toInt64S.calls kj73 _ _ l1 t254 _ ?side1 ?side2 A119.out).mono ?_); (case side1 => repeat (first | exact (Kd.C_below HR1.out HB.out) | (with_reducible refine Kd.C_alloc ?_ _) | (with_reducible refine Kd.C_drewN ?_ _) | (with_reducible refine Kd.C_drew ?_))); (case side2 => exact HC1.out); rintro e w133 ⟨v255, rfl, ho0, hb⟩; refine ⟨_, rfl, ?_⟩; have n0_ := Aside0.mk (Kd.R_below (by (with_reducible repeat (first | apply Kd.R_alloc | apply Kd.R_drewN | apply Kd.R_drew)); exact HO_218001.out) hb); have n1_ := Aside0.mk (Kd.R_below (by (with_reducible repeat (first | apply Kd.R_alloc | apply Kd.R_drewN | apply Kd.R_drew)); exact HO_223001.out) hb); have n2_ := Aside0.mk (Kd.R_below (by (with_reducible repeat (first | apply Kd.R_alloc | apply Kd.R_drewN | apply Kd.R_drew)); exact HO_232001.out) hb); have n3_ := Aside0.mk (Kd.R_below (by (with_reducible repeat (first | apply Kd.R_alloc | apply Kd.R_drewN | apply Kd.R_drew)); exact HO253.out) hb); have n4_ := Aside0.mk (Kd.R_lower ho0 (below_size (by repeat (first | (with_reducible first | exact HB.out | apply below_alloc | apply pw_below_drewN | apply below_drew1 | refine below_set ?_ GE203.out | refine below_set ?_ GE217.out | refine below_set ?_ GE222.out | refine below_set ?_ GE231.out) | exact HB.out)))); have n5_ := Aside0.mk (blk_below (g := gb203) (o := .cells #[.int .i64 a0_0, .slice A0_1 l0_1.length c0_1] 37 (0, 0)) (by (with_reducible repeat (first | refine blk_drewN ?_ _ | refine blk_drew ?_ | refine blk_alloc ?_ _)); exact BK203.out) hb); have n6_ := Aside0.mk (blk_below (g := gb217) (o := .cells #[.int .i64 t212, .slice Ao29 t213.length co29] 26 (0, 0)) (by (with_reducible repeat (first | refine blk_drewN ?_ _ | refine blk_drew ?_ | refine blk_alloc ?_ _)); exact BK217.out) hb); have n7_ := Aside0.mk (blk_below (g := gb222) (o := .cells #[.int .i64 t218, .slice Ao36 t243.length co36] 26 (0, 0)) (by (with_reducible repeat (first | refine blk_drewN ?_ _ | refine blk_drew ?_ | refine blk_alloc ?_ _)); exact BK222.out) hb); have n8_ := Aside0.mk (blk_below (g := gb231) (o := .cells #[.int .i64 t226, .slice Ao46 t227.length co46] 26 (0, 0)) (by (with_reducible repeat (first | refine blk_drewN ?_ _ | refine blk_drew ?_ | refine blk_alloc ?_ _)); exact BK231.out) hb); have n9_ := Aside0.mk (below_step (by repeat (first | (with_reducible first | exact HB.out | apply below_alloc | apply pw_below_drewN | apply below_drew1 | refine below_set ?_ GE203.out | refine below_set ?_ GE217.out | refine below_set ?_ GE222.out | refine below_set ?_ GE231.out) | exact HB.out)) hb); clear HO_218001; clear HO_223001; clear HO_232001; clear HO253; clear BK203; clear BK217; clear BK222; clear BK231; clear HB; have HO_218001 := n0_; have HO_223001 := n1_; have HO_232001 := n2_; have HO253 := n3_; have HO256 := n4_; have BK203 := n5_; have BK217 := n6_; have BK222 := n7_; have BK231 := n8_; have HB := n9_; clear n0_ n1_ n2_ n3_ n4_ n5_ n6_ n7_ n8_ n9_; (try clear hb); (try clear hb2); (try clear hk); (try clear hi); (try clear ho0); obtain ⟨Ao134, co134, eo134⟩ := Kd.R_slice HO253.out; subst eo134; obtain ⟨Ao135, co135, eo135⟩ := Kd.R_slice HO256.out; subst eo135) | ((with_reducible refine gate_callee (f := 15) rfl ?_); refine goesL_ (some 97) rfl rfl Try.func15 (by kernel_rfl) rfl #[.agg #[.int .i64 t250, .slice Ao134 t251.length co134], .slice Ao135 t254.length co135] rfl (by (try simp only [List.map_toArray, List.map_cons, List.map_nil]); first | done | rfl | (simp only [List.length_drop, List.length_take]; rfl)) ?_; (with_reducible refine (impl_Cutting.calls kj73 t250 _ _ t251 _ _ t254 t257 t258 t261 _ ?side1 ?side2 ?side3 ?side4 A120.out).mono ?_); (case side1 => repeat (first | exact (Kd.R_reads' HO253.out).2.2 | (with_reducible refine Kd.C_alloc ?_ _) | (with_reducible refine Kd.C_drewN ?_ _) | (with_reducible refine Kd.C_drew ?_))); (case side2 => exact (Kd.R_reads' HO253.out).2.1); (case side3 => repeat (first | exact (Kd.R_reads' HO256.out).2.2 | (with_reducible refine Kd.C_alloc ?_ _) | (with_reducible refine Kd.C_drewN ?_ _) | (with_reducible refine Kd.C_drew ?_))); (case side4 => exact (Kd.R_reads' HO256.out).2.1); rintro e w136 ⟨v259, rfl, ho0, hb⟩; refine ⟨_, rfl, ?_⟩; have n0_ := Aside0.mk (Kd.R_elder' (by (with_reducible repeat (first | apply Kd.R_alloc | apply Kd.R_drewN | apply Kd.R_drew)); exact HO_218001.out) (Kd.R_base ho0) hb); have n1_ := Aside0.mk (Kd.R_elder' (by (with_reducible repeat (first | apply Kd.R_alloc | apply Kd.R_drewN | apply Kd.R_drew)); exact HO_223001.out) (Kd.R_base ho0) hb); have n2_ := Aside0.mk (Kd.R_elder' (by (with_reducible repeat (first | apply Kd.R_alloc | apply Kd.R_drewN | apply Kd.R_drew)); exact HO_232001.out) (Kd.R_base ho0) hb); have n3_ := Aside0.mk (Kd.R_elder' (by (with_reducible repeat (first | apply Kd.R_alloc | apply Kd.R_drewN | apply Kd.R_drew)); exact HO253.out) (Kd.R_base ho0) hb); have n4_ := Aside0.mk (Kd.R_below (by (with_reducible repeat (first | apply Kd.R_alloc | apply Kd.R_drewN | apply Kd.R_drew)); exact HO256.out) hb); have n5_ := Aside0.mk (Kd.R_lower (Kd.R_new' (Kd.R_new' (Kd.R_new' (Kd.R_new' ho0 (Kd.R_lt (by (with_reducible repeat (first | apply Kd.R_alloc | apply Kd.R_drewN | apply Kd.R_drew)); exact HO_218001.out))) (Kd.R_lt (by (with_reducible repeat (first | apply Kd.R_alloc | apply Kd.R_drewN | apply Kd.R_drew)); exact HO_223001.out))) (Kd.R_lt (by (with_reducible repeat (first | apply Kd.R_alloc | apply Kd.R_drewN | apply Kd.R_drew)); exact HO_232001.out))) (Kd.R_lt (by (with_reducible repeat (first | apply Kd.R_alloc | apply Kd.R_drewN | apply Kd.R_drew)); exact HO253.out))) (below_size (by repeat (first | (with_reducible first | exact HB.out | apply below_alloc | apply pw_below_drewN | apply below_drew1 | refine below_set ?_ GE203.out | refine below_set ?_ GE217.out | refine below_set ?_ GE222.out | refine below_set ?_ GE231.out) | exact HB.out)))); have n6_ := Aside0.mk (blk_below (g := gb203) (o := .cells #[.int .i64 a0_0, .slice A0_1 l0_1.length c0_1] 37 (0, 0)) (by (with_reducible repeat (first | refine blk_drewN ?_ _ | refine blk_drew ?_ | refine blk_alloc ?_ _)); exact BK203.out) hb); have n7_ := Aside0.mk (blk_below (g := gb217) (o := .cells #[.int .i64 t212, .slice Ao29 t213.length co29] 26 (0, 0)) (by (with_reducible repeat (first | refine blk_drewN ?_ _ | refine blk_drew ?_ | refine blk_alloc ?_ _)); exact BK217.out) hb); have n8_ := Aside0.mk (blk_below (g := gb222) (o := .cells #[.int .i64 t218, .slice Ao36 t243.length co36] 26 (0, 0)) (by (with_reducible repeat (first | refine blk_drewN ?_ _ | refine blk_drew ?_ | refine blk_alloc ?_ _)); exact BK222.out) hb); have n9_ := Aside0.mk (blk_below (g := gb231) (o := .cells #[.int .i64 t226, .slice Ao46 t227.length co46] 26 (0, 0)) (by (with_reducible repeat (first | refine blk_drewN ?_ _ | refine blk_drew ?_ | refine blk_alloc ?_ _)); exact BK231.out) hb); have n10_ := Aside0.mk (below_step (by repeat (first | (with_reducible first | exact HB.out | apply below_alloc | apply pw_below_drewN | apply below_drew1 | refine below_set ?_ GE203.out | refine below_set ?_ GE217.out | refine below_set ?_ GE222.out | refine below_set ?_ GE231.out) | exact HB.out)) hb); clear HO_218001; clear HO_223001; clear HO_232001; clear HO253; clear HO256; clear BK203; clear BK217; clear BK222; clear BK231; clear HB; have HO_218001 := n0_; have HO_223001 := n1_; have HO_232001 := n2_; have HO253 := n3_; have HO256 := n4_; have HO260 := n5_; have BK203 := n6_; have BK217 := n7_; have BK222 := n8_; have BK231 := n9_; have HB := n10_; clear n0_ n1_ n2_ n3_ n4_ n5_ n6_ n7_ n8_ n9_ n10_; (try clear hb); (try clear hb2); (try clear hk); (try clear hi); (try clear ho0)) | ((with_reducible refine gate_dst (N := 15) rfl ?_); refine box_event ?hg (N := 15) ?hd (cs := #[.int .i64 0, .slice none 0 0]) (t := 26) ?hr ?_; (case hd => rfl); (case hg => rfl); (case hr => first | (go_simp; done) | (go_simp; rfl)); intro gb262 hg w137 hbox hb; have n0_ := Aside0.mk (Kd.R_below (by (with_reducible repeat (first | apply Kd.R_alloc | apply Kd.R_drewN | apply Kd.R_drew)); exact HO_218001.out) hb); have n1_ := Aside0.mk (Kd.R_below (by (with_reducible repeat (first | apply Kd.R_alloc | apply Kd.R_drewN | apply Kd.R_drew)); exact HO_223001.out) hb); have n2_ := Aside0.mk (Kd.R_below (by (with_reducible repeat (first | apply Kd.R_alloc | apply Kd.R_drewN | apply Kd.R_drew)); exact HO_232001.out) hb); have n3_ := Aside0.mk (Kd.R_below (by (with_reducible repeat (first | apply Kd.R_alloc | apply Kd.R_drewN | apply Kd.R_drew)); exact HO253.out) hb); have n4_ := Aside0.mk (Kd.R_below (by (with_reducible repeat (first | apply Kd.R_alloc | apply Kd.R_drewN | apply Kd.R_drew)); exact HO256.out) hb); have n5_ := Aside0.mk (Kd.R_below (by (with_reducible repeat (first | apply Kd.R_alloc | apply Kd.R_drewN | apply Kd.R_drew)); exact HO260.out) hb); have n6_ := Aside0.mk (blk_below (g := gb203) (o := .cells #[.int .i64 a0_0, .slice A0_1 l0_1.length c0_1] 37 (0, 0)) (by (with_reducible repeat (first | refine blk_drewN ?_ _ | refine blk_drew ?_ | refine blk_alloc ?_ _)); exact BK203.out) hb); have n7_ := Aside0.mk (blk_below (g := gb217) (o := .cells #[.int .i64 t212, .slice Ao29 t213.length co29] 26 (0, 0)) (by (with_reducible repeat (first | refine blk_drewN ?_ _ | refine blk_drew ?_ | refine blk_alloc ?_ _)); exact BK217.out) hb); have n8_ := Aside0.mk (blk_below (g := gb222) (o := .cells #[.int .i64 t218, .slice Ao36 t243.length co36] 26 (0, 0)) (by (with_reducible repeat (first | refine blk_drewN ?_ _ | refine blk_drew ?_ | refine blk_alloc ?_ _)); exact BK222.out) hb); have n9_ := Aside0.mk (blk_below (g := gb231) (o := .cells #[.int .i64 t226, .slice Ao46 t227.length co46] 26 (0, 0)) (by (with_reducible repeat (first | refine blk_drewN ?_ _ | refine blk_drew ?_ | refine blk_alloc ?_ _)); exact BK231.out) hb); have n10_ := Aside0.mk (below_step (by repeat (first | (with_reducible first | exact HB.out | apply below_alloc | apply pw_below_drewN | apply below_drew1 | refine below_set ?_ GE203.out | refine below_set ?_ GE217.out | refine below_set ?_ GE222.out | refine below_set ?_ GE231.out) | exact HB.out)) hb); have n11_ := Aside0.mk (hbox); have n12_ := Aside0.mk ((by rw [hg]; exact (below_size (by repeat (first | (with_reducible first | exact HB.out | apply below_alloc | apply pw_below_drewN | apply below_drew1 | refine below_set ?_ GE203.out | refine below_set ?_ GE217.out | refine below_set ?_ GE222.out | refine below_set ?_ GE231.out) | exact HB.out))) : w.heap.size ≤ gb262)); have n13_ := Aside0.mk ((by rw [hg]; exact (below_size (by repeat (first | (with_reducible first | exact HB.out | apply below_alloc | apply pw_below_drewN | apply below_drew1 | refine below_set ?_ GE203.out | refine below_set ?_ GE217.out | refine below_set ?_ GE222.out | refine below_set ?_ GE231.out) | exact HB.out))) : w.heap.size ≤ gb262)); have n14_ := Aside0.mk ((by rw [hg]; exact Nat.ne_of_lt (blk_lt (g := gb203) (o := .cells #[.int .i64 a0_0, .slice A0_1 l0_1.length c0_1] 37 (0, 0)) (by (with_reducible repeat (first | refine blk_drewN ?_ _ | refine blk_drew ?_ | refine blk_alloc ?_ _)); exact BK203.out)) : gb203 ≠ gb262)); have n15_ := Aside0.mk ((by rw [hg]; exact Nat.ne_of_gt (blk_lt (g := gb203) (o := .cells #[.int .i64 a0_0, .slice A0_1 l0_1.length c0_1] 37 (0, 0)) (by (with_reducible repeat (first | refine blk_drewN ?_ _ | refine blk_drew ?_ | refine blk_alloc ?_ _)); exact BK203.out)) : gb262 ≠ gb203)); have n16_ := Aside0.mk ((by rw [hg]; exact Nat.ne_of_lt (blk_lt (g := gb217) (o := .cells #[.int .i64 t212, .slice Ao29 t213.length co29] 26 (0, 0)) (by (with_reducible repeat (first | refine blk_drewN ?_ _ | refine blk_drew ?_ | refine blk_alloc ?_ _)); exact BK217.out)) : gb217 ≠ gb262)); have n17_ := Aside0.mk ((by rw [hg]; exact Nat.ne_of_gt (blk_lt (g := gb217) (o := .cells #[.int .i64 t212, .slice Ao29 t213.length co29] 26 (0, 0)) (by (with_reducible repeat (first | refine blk_drewN ?_ _ | refine blk_drew ?_ | refine blk_alloc ?_ _)); exact BK217.out)) : gb262 ≠ gb217)); have n18_ := Aside0.mk ((by rw [hg]; exact Nat.ne_of_lt (blk_lt (g := gb222) (o := .cells #[.int .i64 t218, .slice Ao36 t243.length co36] 26 (0, 0)) (by (with_reducible repeat (first | refine blk_drewN ?_ _ | refine blk_drew ?_ | refine blk_alloc ?_ _)); exact BK222.out)) : gb222 ≠ gb262)); have n19_ := Aside0.mk ((by rw [hg]; exact Nat.ne_of_gt (blk_lt (g := gb222) (o := .cells #[.int .i64 t218, .slice Ao36 t243.length co36] 26 (0, 0)) (by (with_reducible repeat (first | refine blk_drewN ?_ _ | refine blk_drew ?_ | refine blk_alloc ?_ _)); exact BK222.out)) : gb262 ≠ gb222)); have n20_ := Aside0.mk ((by rw [hg]; exact Nat.ne_of_lt (blk_lt (g := gb231) (o := .cells #[.int .i64 t226, .slice Ao46 t227.length co46] 26 (0, 0)) (by (with_reducible repeat (first | refine blk_drewN ?_ _ | refine blk_drew ?_ | refine blk_alloc ?_ _)); exact BK231.out)) : gb231 ≠ gb262)); have n21_ := Aside0.mk ((by rw [hg]; exact Nat.ne_of_gt (blk_lt (g := gb231) (o := .cells #[.int .i64 t226, .slice Ao46 t227.length co46] 26 (0, 0)) (by (with_reducible repeat (first | refine blk_drewN ?_ _ | refine blk_drew ?_ | refine blk_alloc ?_ _)); exact BK231.out)) : gb262 ≠ gb231)); clear HO_218001; clear HO_223001; clear HO_232001; clear HO253; clear HO256; clear HO260; clear BK203; clear BK217; clear BK222; clear BK231; clear HB; have HO_218001 := n0_; have HO_223001 := n1_; have HO_232001 := n2_; have HO253 := n3_; have HO256 := n4_; have HO260 := n5_; have BK203 := n6_; have BK217 := n7_; have BK222 := n8_; have BK231 := n9_; have HB := n10_; have BK262 := n11_; have GW262 := n12_; have GE262 := n13_; have NB203_262 := n14_; have NB262_203 := n15_; have NB217_262 := n16_; have NB262_217 := n17_; have NB222_262 := n18_; have NB262_222 := n19_; have NB231_262 := n20_; have NB262_231 := n21_; clear n0_ n1_ n2_ n3_ n4_ n5_ n6_ n7_ n8_ n9_ n10_ n11_ n12_ n13_ n14_ n15_ n16_ n17_ n18_ n19_ n20_ n21_; clear hb hbox hg; have hnb138 := NB262_203.out; have hnc138 := NB203_262.out; have hnb139 := NB262_217.out; have hnc139 := NB217_262.out; have hnb140 := NB262_222.out; have hnc140 := NB222_262.out; have hnb141 := NB262_231.out; have hnc141 := NB231_262.out; have hcz142_0 : w137.cell? ⟨gb262, 0, none⟩ = some (.int .i64 0) := (blk_cell BK262.out 0).trans rfl; have hcz142_1 : w137.cell? ⟨gb262, 1, none⟩ = some (.slice none 0 0) := (blk_cell BK262.out 1).trans rfl; have hfz142_0 := blk_frozen BK262.out 0; have hfz142_1 := blk_frozen BK262.out 1; obtain ⟨Ao143, co143, eo143⟩ := Kd.R_slice HO260.out; subst eo143))
             (try simp only [Act.put, List.setIfInBounds_toArray, List.set_cons_zero, List.set_cons_succ])
             go_cut [108] (fun v108 wc => ∃ (kq : Nat) (x108_120 : Bool), v108 = .bool x108_120 ∧ Aside0 (laws_FnExactCutting.j2 kq t247 x108_120 t226 t248 = some r) ∧ Aside0 (kq ≤ kj73) ∧ Aside0 (Kd.R k34 34 wc w.heap.size (fun k_ => some k_ ≠ ((.slice Ao36 t243.length co36) : Value).ownBlock ∧ some k_ ≠ ((.slice Ao46 t227.length co46) : Value).ownBlock ∧ some k_ ≠ ((.slice Ao143 t258.length co143) : Value).ownBlock) (.slice Ao29 t213.length co29) t213) ∧ Aside0 (Kd.R k34 34 wc w.heap.size (fun k_ => some k_ ≠ ((.slice Ao29 t213.length co29) : Value).ownBlock ∧ some k_ ≠ ((.slice Ao46 t227.length co46) : Value).ownBlock ∧ some k_ ≠ ((.slice Ao143 t258.length co143) : Value).ownBlock) (.slice Ao36 t243.length co36) t243) ∧ Aside0 (Kd.R k34 34 wc w.heap.size (fun k_ => some k_ ≠ ((.slice Ao29 t213.length co29) : Value).ownBlock ∧ some k_ ≠ ((.slice Ao36 t243.length co36) : Value).ownBlock ∧ some k_ ≠ ((.slice Ao143 t258.length co143) : Value).ownBlock) (.slice Ao46 t227.length co46) t248) ∧ Aside0 (Kd.R k34 34 wc w.heap.size (fun k_ => some k_ ≠ ((.slice Ao29 t213.length co29) : Value).ownBlock ∧ some k_ ≠ ((.slice Ao36 t243.length co36) : Value).ownBlock ∧ some k_ ≠ ((.slice Ao46 t227.length co46) : Value).ownBlock) (.slice Ao143 t258.length co143) t258) ∧ Aside0 (wc.heap[gb203]? = some (.cells #[.int .i64 a0_0, (.slice A0_1 l0_1.length c0_1)] 37 (0, 0))) ∧ Aside0 (wc.heap[gb217]? = some (.cells #[.int .i64 t212, (.slice Ao29 t213.length co29)] 26 (0, 0))) ∧ Aside0 (wc.heap[gb222]? = some (.cells #[.int .i64 t218, (.slice Ao36 t243.length co36)] 26 (0, 0))) ∧ Aside0 (wc.heap[gb231]? = some (.cells #[.int .i64 t226, (.slice Ao46 t227.length co46)] 26 (0, 0))) ∧ Aside0 (wc.heap[gb262]? = some (.cells #[.int .i64 t257, (.slice Ao143 t258.length co143)] 26 (0, 0))) ∧ Aside0 (Below w.heap.size w wc))
             case first =>
              have H := HC121.out
              clear HC121
              replace H := Option.bind_eq_some_iff.mp H
              obtain ⟨t263, A1440, H⟩ := H
              replace H : (if t263 = true then (laws_FnExactCutting.j2 kj73 t247 (t261 != t216) t226 t248) else (laws_FnExactCutting.j2 kj73 t247 true t226 t248)) = some r := H
              have A144 := Aside0.mk A1440
              clear A1440
              by_cases c145 : t263 = true
              ·
               subst c145
               have H1 : (laws_FnExactCutting.j2 kj73 t247 (t261 != t216) t226 t248) = some r := by rw [if_pos rfl] at H; exact H
               clear H
               have H := H1
               clear H1
               have H' := Aside0.mk H
               clear H
               have hnb146 := NB262_203.out
               have hnc146 := NB203_262.out
               have hnb147 := NB262_217.out
               have hnc147 := NB217_262.out
               have hnb148 := NB262_222.out
               have hnc148 := NB222_262.out
               have hnb149 := NB262_231.out
               have hnc149 := NB231_262.out
               have hcz150_0 : w137.cell? ⟨gb262, 0, none⟩ = some (.int .i64 0) := (blk_cell BK262.out 0).trans rfl
               have hcz150_1 : w137.cell? ⟨gb262, 1, none⟩ = some (.slice none 0 0) := (blk_cell BK262.out 1).trans rfl
               have hfz150_0 := blk_frozen BK262.out 0
               have hfz150_1 := blk_frozen BK262.out 1
               have hnb151 := NB217_203.out
               have hnc151 := NB203_217.out
               have hnb152 := NB217_222.out
               have hnc152 := NB222_217.out
               have hnb153 := NB217_231.out
               have hnc153 := NB231_217.out
               have hcz154_0 : w137.cell? ⟨gb217, 0, none⟩ = some (.int .i64 t212) := (blk_cell BK217.out 0).trans rfl
               have hcz154_1 : w137.cell? ⟨gb217, 1, none⟩ = some (.slice Ao29 t213.length co29) := (blk_cell BK217.out 1).trans rfl
               have hfz154_0 := blk_frozen BK217.out 0
               have hfz154_1 := blk_frozen BK217.out 1
               go_wp2_with (first | ((with_reducible refine gate_callee (f := 21) rfl ?_); refine goesL_ (some 102) rfl rfl Try.func21 (by kernel_rfl) rfl #[.agg #[.int .i64 t257, .slice Ao143 t258.length co143], .agg #[.int .i64 t212, .slice Ao29 t213.length co29]] rfl (by (try simp only [List.map_toArray, List.map_cons, List.map_nil]); first | done | rfl | (simp only [List.length_drop, List.length_take]; rfl)) ?_; (with_reducible refine (laws_eqNet.calls kj73 t257 _ _ t258 t212 _ _ t213 true _ ?side1 ?side2 ?side3 ?side4 A144.out).mono ?_); (case side1 => refine (Kd.R_reads' (e := 34) (base := w.heap.size) (ok := fun k_ => ((((True ∧ some k_ ≠ (.slice Ao29 t213.length co29 : Value).ownBlock) ∧ some k_ ≠ (.slice Ao36 t243.length co36 : Value).ownBlock) ∧ some k_ ≠ (.slice Ao46 t227.length co46 : Value).ownBlock) ∧ some k_ ≠ (.slice Ao134 t251.length co134 : Value).ownBlock)) (n := t258.length) (c := co143) ?_).2.2; exact (by (with_reducible repeat (first | apply Kd.R_alloc | apply Kd.R_drewN | apply Kd.R_drew)); exact (Kd.R_mono (Kd.R_far (p := ⟨gb262, 1, none⟩) (Kd.R_far (p := ⟨gb262, 0, none⟩) (Kd.R_types HO260.out BK262.out (by decide)) (fun _ hk => hk.2) (.int .i64 t257)) (fun _ hk => hk.2) (.slice Ao143 t258.length co143)) (fun _ h_ => h_.1)))); (case side2 => exact (Kd.R_reads' HO260.out).2.1); (case side3 => refine (Kd.R_reads' (e := 34) (base := w.heap.size) (ok := fun k_ => (((some k_ ≠ (.slice Ao36 t243.length co36 : Value).ownBlock ∧ some k_ ≠ (.slice Ao46 t227.length co46 : Value).ownBlock) ∧ some k_ ≠ (.slice Ao134 t251.length co134 : Value).ownBlock) ∧ some k_ ≠ (.slice Ao143 t258.length co143 : Value).ownBlock)) (n := t213.length) (c := co29) ?_).2.2; exact (by (with_reducible repeat (first | apply Kd.R_alloc | apply Kd.R_drewN | apply Kd.R_drew)); exact (Kd.R_mono (Kd.R_far (p := ⟨gb262, 1, none⟩) (Kd.R_far (p := ⟨gb262, 0, none⟩) (Kd.R_types HO_218001.out BK262.out (by decide)) (fun _ hk => hk.2) (.int .i64 t257)) (fun _ hk => hk.2) (.slice Ao143 t258.length co143)) (fun _ h_ => h_.1)))); (case side4 => exact (Kd.R_reads' HO_218001.out).2.1); rintro e w155 ⟨rfl, hb⟩; refine ⟨_, rfl, ?_⟩; have n0_ := Aside0.mk (Kd.R_below (by (with_reducible repeat (first | apply Kd.R_alloc | apply Kd.R_drewN | apply Kd.R_drew)); exact (Kd.R_mono (Kd.R_far (p := ⟨gb262, 1, none⟩) (Kd.R_far (p := ⟨gb262, 0, none⟩) (Kd.R_types HO_218001.out BK262.out (by decide)) (fun _ hk => hk.2) (.int .i64 t257)) (fun _ hk => hk.2) (.slice Ao143 t258.length co143)) (fun _ h_ => h_.1))) hb); have n1_ := Aside0.mk (Kd.R_below (by (with_reducible repeat (first | apply Kd.R_alloc | apply Kd.R_drewN | apply Kd.R_drew)); exact (Kd.R_mono (Kd.R_far (p := ⟨gb262, 1, none⟩) (Kd.R_far (p := ⟨gb262, 0, none⟩) (Kd.R_types HO_223001.out BK262.out (by decide)) (fun _ hk => hk.2) (.int .i64 t257)) (fun _ hk => hk.2) (.slice Ao143 t258.length co143)) (fun _ h_ => h_.1))) hb); have n2_ := Aside0.mk (Kd.R_below (by (with_reducible repeat (first | apply Kd.R_alloc | apply Kd.R_drewN | apply Kd.R_drew)); exact (Kd.R_mono (Kd.R_far (p := ⟨gb262, 1, none⟩) (Kd.R_far (p := ⟨gb262, 0, none⟩) (Kd.R_types HO_232001.out BK262.out (by decide)) (fun _ hk => hk.2) (.int .i64 t257)) (fun _ hk => hk.2) (.slice Ao143 t258.length co143)) (fun _ h_ => h_.1))) hb); have n3_ := Aside0.mk (Kd.R_below (by (with_reducible repeat (first | apply Kd.R_alloc | apply Kd.R_drewN | apply Kd.R_drew)); exact (Kd.R_mono (Kd.R_far (p := ⟨gb262, 1, none⟩) (Kd.R_far (p := ⟨gb262, 0, none⟩) (Kd.R_types HO253.out BK262.out (by decide)) (fun _ hk => hk.2) (.int .i64 t257)) (fun _ hk => hk.2) (.slice Ao143 t258.length co143)) (fun _ h_ => h_.1))) hb); have n4_ := Aside0.mk (Kd.R_below (by (with_reducible repeat (first | apply Kd.R_alloc | apply Kd.R_drewN | apply Kd.R_drew)); exact (Kd.R_mono (Kd.R_far (p := ⟨gb262, 1, none⟩) (Kd.R_far (p := ⟨gb262, 0, none⟩) (Kd.R_types HO256.out BK262.out (by decide)) (fun _ hk => hk.2) (.int .i64 t257)) (fun _ hk => hk.2) (.slice Ao143 t258.length co143)) (fun _ h_ => h_.1))) hb); have n5_ := Aside0.mk (Kd.R_below (by (with_reducible repeat (first | apply Kd.R_alloc | apply Kd.R_drewN | apply Kd.R_drew)); exact (Kd.R_mono (Kd.R_far (p := ⟨gb262, 1, none⟩) (Kd.R_far (p := ⟨gb262, 0, none⟩) (Kd.R_types HO260.out BK262.out (by decide)) (fun _ hk => hk.2) (.int .i64 t257)) (fun _ hk => hk.2) (.slice Ao143 t258.length co143)) (fun _ h_ => h_.1))) hb); have n6_ := Aside0.mk (blk_below (g := gb203) (o := .cells #[.int .i64 a0_0, .slice A0_1 l0_1.length c0_1] 37 (0, 0)) (by (with_reducible repeat (first | refine blk_drewN ?_ _ | refine blk_drew ?_ | refine blk_alloc ?_ _)); refine blk_far ?_ NB203_262.out _; (with_reducible repeat (first | refine blk_drewN ?_ _ | refine blk_drew ?_ | refine blk_alloc ?_ _)); refine blk_far ?_ NB203_262.out _; (with_reducible repeat (first | refine blk_drewN ?_ _ | refine blk_drew ?_ | refine blk_alloc ?_ _)); exact BK203.out) hb); have n7_ := Aside0.mk (blk_below (g := gb217) (o := .cells #[.int .i64 t212, .slice Ao29 t213.length co29] 26 (0, 0)) (by (with_reducible repeat (first | refine blk_drewN ?_ _ | refine blk_drew ?_ | refine blk_alloc ?_ _)); refine blk_far ?_ NB217_262.out _; (with_reducible repeat (first | refine blk_drewN ?_ _ | refine blk_drew ?_ | refine blk_alloc ?_ _)); refine blk_far ?_ NB217_262.out _; (with_reducible repeat (first | refine blk_drewN ?_ _ | refine blk_drew ?_ | refine blk_alloc ?_ _)); exact BK217.out) hb); have n8_ := Aside0.mk (blk_below (g := gb222) (o := .cells #[.int .i64 t218, .slice Ao36 t243.length co36] 26 (0, 0)) (by (with_reducible repeat (first | refine blk_drewN ?_ _ | refine blk_drew ?_ | refine blk_alloc ?_ _)); refine blk_far ?_ NB222_262.out _; (with_reducible repeat (first | refine blk_drewN ?_ _ | refine blk_drew ?_ | refine blk_alloc ?_ _)); refine blk_far ?_ NB222_262.out _; (with_reducible repeat (first | refine blk_drewN ?_ _ | refine blk_drew ?_ | refine blk_alloc ?_ _)); exact BK222.out) hb); have n9_ := Aside0.mk (blk_below (g := gb231) (o := .cells #[.int .i64 t226, .slice Ao46 t227.length co46] 26 (0, 0)) (by (with_reducible repeat (first | refine blk_drewN ?_ _ | refine blk_drew ?_ | refine blk_alloc ?_ _)); refine blk_far ?_ NB231_262.out _; (with_reducible repeat (first | refine blk_drewN ?_ _ | refine blk_drew ?_ | refine blk_alloc ?_ _)); refine blk_far ?_ NB231_262.out _; (with_reducible repeat (first | refine blk_drewN ?_ _ | refine blk_drew ?_ | refine blk_alloc ?_ _)); exact BK231.out) hb); have n10_ := Aside0.mk (blk_below (g := gb262) (o := .cells #[.int .i64 t257, .slice Ao143 t258.length co143] 26 (0, 0)) (by (with_reducible repeat (first | refine blk_drewN ?_ _ | refine blk_drew ?_ | refine blk_alloc ?_ _)); refine blk_put (cs := #[.int .i64 t257, .slice none 0 0]) ?_ 1 _ rfl; (with_reducible repeat (first | refine blk_drewN ?_ _ | refine blk_drew ?_ | refine blk_alloc ?_ _)); refine blk_put (cs := #[.int .i64 0, .slice none 0 0]) ?_ 0 _ rfl; (with_reducible repeat (first | refine blk_drewN ?_ _ | refine blk_drew ?_ | refine blk_alloc ?_ _)); exact BK262.out) hb); have n11_ := Aside0.mk (below_step (by repeat (first | (with_reducible first | exact HB.out | apply below_alloc | apply pw_below_drewN | apply below_drew1 | refine below_set ?_ GE203.out | refine below_set ?_ GE217.out | refine below_set ?_ GE222.out | refine below_set ?_ GE231.out | refine below_set ?_ GE262.out) | exact HB.out)) hb); clear HO_218001; clear HO_223001; clear HO_232001; clear HO253; clear HO256; clear HO260; clear BK203; clear BK217; clear BK222; clear BK231; clear BK262; clear HB; have HO_218001 := n0_; have HO_223001 := n1_; have HO_232001 := n2_; have HO253 := n3_; have HO256 := n4_; have HO260 := n5_; have BK203 := n6_; have BK217 := n7_; have BK222 := n8_; have BK231 := n9_; have BK262 := n10_; have HB := n11_; clear n0_ n1_ n2_ n3_ n4_ n5_ n6_ n7_ n8_ n9_ n10_ n11_; (try clear hb); (try clear hb2); (try clear hk); (try clear hi)))
               go_meet
               case rel => exact ⟨_, ((t261 != t216)), (by first | rfl | (simp; done) | (simp [*]; done)), H', ⟨by have := HJ15.out; have := HJ73.out; first | omega | exact Nat.le_refl _⟩, ⟨by (try simp only [hl223001_73]); (with_reducible repeat (first | apply Kd.R_alloc | apply Kd.R_drewN | apply Kd.R_drew)); exact Kd.R_mono HO_218001.out (fun _ hk => ⟨hk.1.1.1, ⟨hk.1.1.2, hk.2⟩⟩)⟩, ⟨by (try simp only [hl223001_73]); (with_reducible repeat (first | apply Kd.R_alloc | apply Kd.R_drewN | apply Kd.R_drew)); exact Kd.R_mono HO_223001.out (fun _ hk => ⟨hk.1.1.1, ⟨hk.1.1.2, hk.2⟩⟩)⟩, ⟨by (try simp only [hl223001_73]); (with_reducible repeat (first | apply Kd.R_alloc | apply Kd.R_drewN | apply Kd.R_drew)); exact Kd.R_mono HO_232001.out (fun _ hk => ⟨hk.1.1.1, ⟨hk.1.1.2, hk.2⟩⟩)⟩, ⟨by (try simp only [hl223001_73]); (with_reducible repeat (first | apply Kd.R_alloc | apply Kd.R_drewN | apply Kd.R_drew)); exact Kd.R_mono HO260.out (fun _ hk => ⟨hk.1.1.1.2, ⟨hk.1.1.2, hk.1.2⟩⟩)⟩, ⟨by (try simp only [hl223001_73]); (with_reducible repeat (first | refine blk_drewN ?_ _ | refine blk_drew ?_ | refine blk_alloc ?_ _)); exact BK203.out⟩, ⟨by (try simp only [hl223001_73]); (with_reducible repeat (first | refine blk_drewN ?_ _ | refine blk_drew ?_ | refine blk_alloc ?_ _)); exact BK217.out⟩, ⟨by (try simp only [hl223001_73]); (with_reducible repeat (first | refine blk_drewN ?_ _ | refine blk_drew ?_ | refine blk_alloc ?_ _)); exact BK222.out⟩, ⟨by (try simp only [hl223001_73]); (with_reducible repeat (first | refine blk_drewN ?_ _ | refine blk_drew ?_ | refine blk_alloc ?_ _)); exact BK231.out⟩, ⟨by (try simp only [hl223001_73]); (with_reducible repeat (first | refine blk_drewN ?_ _ | refine blk_drew ?_ | refine blk_alloc ?_ _)); exact BK262.out⟩, ⟨by repeat (first | (with_reducible first | exact HB.out | apply below_alloc | apply pw_below_drewN | apply below_drew1 | refine below_set ?_ GE203.out | refine below_set ?_ GE217.out | refine below_set ?_ GE222.out | refine below_set ?_ GE231.out | refine below_set ?_ GE262.out) | exact HB.out)⟩⟩
              ·
               replace c145 := Bool.eq_false_iff.mpr c145
               subst c145
               have H1 : (laws_FnExactCutting.j2 kj73 t247 true t226 t248) = some r := by rw [if_neg (show ¬ (false = true) by decide)] at H; exact H
               clear H
               have H := H1
               clear H1
               have H' := Aside0.mk H
               clear H
               have hnb156 := NB262_203.out
               have hnc156 := NB203_262.out
               have hnb157 := NB262_217.out
               have hnc157 := NB217_262.out
               have hnb158 := NB262_222.out
               have hnc158 := NB222_262.out
               have hnb159 := NB262_231.out
               have hnc159 := NB231_262.out
               have hcz160_0 : w137.cell? ⟨gb262, 0, none⟩ = some (.int .i64 0) := (blk_cell BK262.out 0).trans rfl
               have hcz160_1 : w137.cell? ⟨gb262, 1, none⟩ = some (.slice none 0 0) := (blk_cell BK262.out 1).trans rfl
               have hfz160_0 := blk_frozen BK262.out 0
               have hfz160_1 := blk_frozen BK262.out 1
               have hnb161 := NB217_203.out
               have hnc161 := NB203_217.out
               have hnb162 := NB217_222.out
               have hnc162 := NB222_217.out
               have hnb163 := NB217_231.out
               have hnc163 := NB231_217.out
               have hcz164_0 : w137.cell? ⟨gb217, 0, none⟩ = some (.int .i64 t212) := (blk_cell BK217.out 0).trans rfl
               have hcz164_1 : w137.cell? ⟨gb217, 1, none⟩ = some (.slice Ao29 t213.length co29) := (blk_cell BK217.out 1).trans rfl
               have hfz164_0 := blk_frozen BK217.out 0
               have hfz164_1 := blk_frozen BK217.out 1
               go_wp2_with (first | ((with_reducible refine gate_callee (f := 21) rfl ?_); refine goesL_ (some 102) rfl rfl Try.func21 (by kernel_rfl) rfl #[.agg #[.int .i64 t257, .slice Ao143 t258.length co143], .agg #[.int .i64 t212, .slice Ao29 t213.length co29]] rfl (by (try simp only [List.map_toArray, List.map_cons, List.map_nil]); first | done | rfl | (simp only [List.length_drop, List.length_take]; rfl)) ?_; (with_reducible refine (laws_eqNet.calls kj73 t257 _ _ t258 t212 _ _ t213 false _ ?side1 ?side2 ?side3 ?side4 A144.out).mono ?_); (case side1 => refine (Kd.R_reads' (e := 34) (base := w.heap.size) (ok := fun k_ => ((((True ∧ some k_ ≠ (.slice Ao29 t213.length co29 : Value).ownBlock) ∧ some k_ ≠ (.slice Ao36 t243.length co36 : Value).ownBlock) ∧ some k_ ≠ (.slice Ao46 t227.length co46 : Value).ownBlock) ∧ some k_ ≠ (.slice Ao134 t251.length co134 : Value).ownBlock)) (n := t258.length) (c := co143) ?_).2.2; exact (by (with_reducible repeat (first | apply Kd.R_alloc | apply Kd.R_drewN | apply Kd.R_drew)); exact (Kd.R_mono (Kd.R_far (p := ⟨gb262, 1, none⟩) (Kd.R_far (p := ⟨gb262, 0, none⟩) (Kd.R_types HO260.out BK262.out (by decide)) (fun _ hk => hk.2) (.int .i64 t257)) (fun _ hk => hk.2) (.slice Ao143 t258.length co143)) (fun _ h_ => h_.1)))); (case side2 => exact (Kd.R_reads' HO260.out).2.1); (case side3 => refine (Kd.R_reads' (e := 34) (base := w.heap.size) (ok := fun k_ => (((some k_ ≠ (.slice Ao36 t243.length co36 : Value).ownBlock ∧ some k_ ≠ (.slice Ao46 t227.length co46 : Value).ownBlock) ∧ some k_ ≠ (.slice Ao134 t251.length co134 : Value).ownBlock) ∧ some k_ ≠ (.slice Ao143 t258.length co143 : Value).ownBlock)) (n := t213.length) (c := co29) ?_).2.2; exact (by (with_reducible repeat (first | apply Kd.R_alloc | apply Kd.R_drewN | apply Kd.R_drew)); exact (Kd.R_mono (Kd.R_far (p := ⟨gb262, 1, none⟩) (Kd.R_far (p := ⟨gb262, 0, none⟩) (Kd.R_types HO_218001.out BK262.out (by decide)) (fun _ hk => hk.2) (.int .i64 t257)) (fun _ hk => hk.2) (.slice Ao143 t258.length co143)) (fun _ h_ => h_.1)))); (case side4 => exact (Kd.R_reads' HO_218001.out).2.1); rintro e w165 ⟨rfl, hb⟩; refine ⟨_, rfl, ?_⟩; have n0_ := Aside0.mk (Kd.R_below (by (with_reducible repeat (first | apply Kd.R_alloc | apply Kd.R_drewN | apply Kd.R_drew)); exact (Kd.R_mono (Kd.R_far (p := ⟨gb262, 1, none⟩) (Kd.R_far (p := ⟨gb262, 0, none⟩) (Kd.R_types HO_218001.out BK262.out (by decide)) (fun _ hk => hk.2) (.int .i64 t257)) (fun _ hk => hk.2) (.slice Ao143 t258.length co143)) (fun _ h_ => h_.1))) hb); have n1_ := Aside0.mk (Kd.R_below (by (with_reducible repeat (first | apply Kd.R_alloc | apply Kd.R_drewN | apply Kd.R_drew)); exact (Kd.R_mono (Kd.R_far (p := ⟨gb262, 1, none⟩) (Kd.R_far (p := ⟨gb262, 0, none⟩) (Kd.R_types HO_223001.out BK262.out (by decide)) (fun _ hk => hk.2) (.int .i64 t257)) (fun _ hk => hk.2) (.slice Ao143 t258.length co143)) (fun _ h_ => h_.1))) hb); have n2_ := Aside0.mk (Kd.R_below (by (with_reducible repeat (first | apply Kd.R_alloc | apply Kd.R_drewN | apply Kd.R_drew)); exact (Kd.R_mono (Kd.R_far (p := ⟨gb262, 1, none⟩) (Kd.R_far (p := ⟨gb262, 0, none⟩) (Kd.R_types HO_232001.out BK262.out (by decide)) (fun _ hk => hk.2) (.int .i64 t257)) (fun _ hk => hk.2) (.slice Ao143 t258.length co143)) (fun _ h_ => h_.1))) hb); have n3_ := Aside0.mk (Kd.R_below (by (with_reducible repeat (first | apply Kd.R_alloc | apply Kd.R_drewN | apply Kd.R_drew)); exact (Kd.R_mono (Kd.R_far (p := ⟨gb262, 1, none⟩) (Kd.R_far (p := ⟨gb262, 0, none⟩) (Kd.R_types HO253.out BK262.out (by decide)) (fun _ hk => hk.2) (.int .i64 t257)) (fun _ hk => hk.2) (.slice Ao143 t258.length co143)) (fun _ h_ => h_.1))) hb); have n4_ := Aside0.mk (Kd.R_below (by (with_reducible repeat (first | apply Kd.R_alloc | apply Kd.R_drewN | apply Kd.R_drew)); exact (Kd.R_mono (Kd.R_far (p := ⟨gb262, 1, none⟩) (Kd.R_far (p := ⟨gb262, 0, none⟩) (Kd.R_types HO256.out BK262.out (by decide)) (fun _ hk => hk.2) (.int .i64 t257)) (fun _ hk => hk.2) (.slice Ao143 t258.length co143)) (fun _ h_ => h_.1))) hb); have n5_ := Aside0.mk (Kd.R_below (by (with_reducible repeat (first | apply Kd.R_alloc | apply Kd.R_drewN | apply Kd.R_drew)); exact (Kd.R_mono (Kd.R_far (p := ⟨gb262, 1, none⟩) (Kd.R_far (p := ⟨gb262, 0, none⟩) (Kd.R_types HO260.out BK262.out (by decide)) (fun _ hk => hk.2) (.int .i64 t257)) (fun _ hk => hk.2) (.slice Ao143 t258.length co143)) (fun _ h_ => h_.1))) hb); have n6_ := Aside0.mk (blk_below (g := gb203) (o := .cells #[.int .i64 a0_0, .slice A0_1 l0_1.length c0_1] 37 (0, 0)) (by (with_reducible repeat (first | refine blk_drewN ?_ _ | refine blk_drew ?_ | refine blk_alloc ?_ _)); refine blk_far ?_ NB203_262.out _; (with_reducible repeat (first | refine blk_drewN ?_ _ | refine blk_drew ?_ | refine blk_alloc ?_ _)); refine blk_far ?_ NB203_262.out _; (with_reducible repeat (first | refine blk_drewN ?_ _ | refine blk_drew ?_ | refine blk_alloc ?_ _)); exact BK203.out) hb); have n7_ := Aside0.mk (blk_below (g := gb217) (o := .cells #[.int .i64 t212, .slice Ao29 t213.length co29] 26 (0, 0)) (by (with_reducible repeat (first | refine blk_drewN ?_ _ | refine blk_drew ?_ | refine blk_alloc ?_ _)); refine blk_far ?_ NB217_262.out _; (with_reducible repeat (first | refine blk_drewN ?_ _ | refine blk_drew ?_ | refine blk_alloc ?_ _)); refine blk_far ?_ NB217_262.out _; (with_reducible repeat (first | refine blk_drewN ?_ _ | refine blk_drew ?_ | refine blk_alloc ?_ _)); exact BK217.out) hb); have n8_ := Aside0.mk (blk_below (g := gb222) (o := .cells #[.int .i64 t218, .slice Ao36 t243.length co36] 26 (0, 0)) (by (with_reducible repeat (first | refine blk_drewN ?_ _ | refine blk_drew ?_ | refine blk_alloc ?_ _)); refine blk_far ?_ NB222_262.out _; (with_reducible repeat (first | refine blk_drewN ?_ _ | refine blk_drew ?_ | refine blk_alloc ?_ _)); refine blk_far ?_ NB222_262.out _; (with_reducible repeat (first | refine blk_drewN ?_ _ | refine blk_drew ?_ | refine blk_alloc ?_ _)); exact BK222.out) hb); have n9_ := Aside0.mk (blk_below (g := gb231) (o := .cells #[.int .i64 t226, .slice Ao46 t227.length co46] 26 (0, 0)) (by (with_reducible repeat (first | refine blk_drewN ?_ _ | refine blk_drew ?_ | refine blk_alloc ?_ _)); refine blk_far ?_ NB231_262.out _; (with_reducible repeat (first | refine blk_drewN ?_ _ | refine blk_drew ?_ | refine blk_alloc ?_ _)); refine blk_far ?_ NB231_262.out _; (with_reducible repeat (first | refine blk_drewN ?_ _ | refine blk_drew ?_ | refine blk_alloc ?_ _)); exact BK231.out) hb); have n10_ := Aside0.mk (blk_below (g := gb262) (o := .cells #[.int .i64 t257, .slice Ao143 t258.length co143] 26 (0, 0)) (by (with_reducible repeat (first | refine blk_drewN ?_ _ | refine blk_drew ?_ | refine blk_alloc ?_ _)); refine blk_put (cs := #[.int .i64 t257, .slice none 0 0]) ?_ 1 _ rfl; (with_reducible repeat (first | refine blk_drewN ?_ _ | refine blk_drew ?_ | refine blk_alloc ?_ _)); refine blk_put (cs := #[.int .i64 0, .slice none 0 0]) ?_ 0 _ rfl; (with_reducible repeat (first | refine blk_drewN ?_ _ | refine blk_drew ?_ | refine blk_alloc ?_ _)); exact BK262.out) hb); have n11_ := Aside0.mk (below_step (by repeat (first | (with_reducible first | exact HB.out | apply below_alloc | apply pw_below_drewN | apply below_drew1 | refine below_set ?_ GE203.out | refine below_set ?_ GE217.out | refine below_set ?_ GE222.out | refine below_set ?_ GE231.out | refine below_set ?_ GE262.out) | exact HB.out)) hb); clear HO_218001; clear HO_223001; clear HO_232001; clear HO253; clear HO256; clear HO260; clear BK203; clear BK217; clear BK222; clear BK231; clear BK262; clear HB; have HO_218001 := n0_; have HO_223001 := n1_; have HO_232001 := n2_; have HO253 := n3_; have HO256 := n4_; have HO260 := n5_; have BK203 := n6_; have BK217 := n7_; have BK222 := n8_; have BK231 := n9_; have BK262 := n10_; have HB := n11_; clear n0_ n1_ n2_ n3_ n4_ n5_ n6_ n7_ n8_ n9_ n10_ n11_; (try clear hb); (try clear hb2); (try clear hk); (try clear hi)))
               go_meet
               case rel => exact ⟨_, (true), (by first | rfl | (simp; done) | (simp [*]; done)), H', ⟨by have := HJ15.out; have := HJ73.out; first | omega | exact Nat.le_refl _⟩, ⟨by (try simp only [hl223001_73]); (with_reducible repeat (first | apply Kd.R_alloc | apply Kd.R_drewN | apply Kd.R_drew)); exact Kd.R_mono HO_218001.out (fun _ hk => ⟨hk.1.1.1, ⟨hk.1.1.2, hk.2⟩⟩)⟩, ⟨by (try simp only [hl223001_73]); (with_reducible repeat (first | apply Kd.R_alloc | apply Kd.R_drewN | apply Kd.R_drew)); exact Kd.R_mono HO_223001.out (fun _ hk => ⟨hk.1.1.1, ⟨hk.1.1.2, hk.2⟩⟩)⟩, ⟨by (try simp only [hl223001_73]); (with_reducible repeat (first | apply Kd.R_alloc | apply Kd.R_drewN | apply Kd.R_drew)); exact Kd.R_mono HO_232001.out (fun _ hk => ⟨hk.1.1.1, ⟨hk.1.1.2, hk.2⟩⟩)⟩, ⟨by (try simp only [hl223001_73]); (with_reducible repeat (first | apply Kd.R_alloc | apply Kd.R_drewN | apply Kd.R_drew)); exact Kd.R_mono HO260.out (fun _ hk => ⟨hk.1.1.1.2, ⟨hk.1.1.2, hk.1.2⟩⟩)⟩, ⟨by (try simp only [hl223001_73]); (with_reducible repeat (first | refine blk_drewN ?_ _ | refine blk_drew ?_ | refine blk_alloc ?_ _)); exact BK203.out⟩, ⟨by (try simp only [hl223001_73]); (with_reducible repeat (first | refine blk_drewN ?_ _ | refine blk_drew ?_ | refine blk_alloc ?_ _)); exact BK217.out⟩, ⟨by (try simp only [hl223001_73]); (with_reducible repeat (first | refine blk_drewN ?_ _ | refine blk_drew ?_ | refine blk_alloc ?_ _)); exact BK222.out⟩, ⟨by (try simp only [hl223001_73]); (with_reducible repeat (first | refine blk_drewN ?_ _ | refine blk_drew ?_ | refine blk_alloc ?_ _)); exact BK231.out⟩, ⟨by (try simp only [hl223001_73]); (with_reducible repeat (first | refine blk_drewN ?_ _ | refine blk_drew ?_ | refine blk_alloc ?_ _)); exact BK262.out⟩, ⟨by repeat (first | (with_reducible first | exact HB.out | apply below_alloc | apply pw_below_drewN | apply below_drew1 | refine below_set ?_ GE203.out | refine below_set ?_ GE217.out | refine below_set ?_ GE222.out | refine below_set ?_ GE231.out | refine below_set ?_ GE262.out) | exact HB.out)⟩⟩
             case rest =>
              clear HC121
              try clear c1
              try clear c2
              try clear p2
              try clear c3
              try clear c3b0
              try clear c3b1
              try clear c4
              try clear c5
              try clear c6
              try clear c6b0
              try clear c7
              try clear c8
              try clear c9
              try clear c10
              try clear c11
              try clear c12
              try clear c13
              try clear c14
              try clear c15
              try clear c16
              try clear c17
              try clear c19
              try clear c21
              try clear c23
              try clear c24
              try clear c27
              try clear c30
              try clear c31
              try clear c32
              try clear c33
              try clear c34
              try clear c42
              try clear c43
              try clear c44
              try clear c48
              try clear c49
              try clear c50
              try clear c51
              try clear c53
              try clear c54
              try clear c57
              try clear c58
              try clear c59
              try clear c61
              try clear c62
              try clear c65
              try clear c68
              try clear c71
              try clear c81
              try clear c82
              try clear c83
              try clear c87
              try clear c87b0
              try clear c89
              try clear c90
              try clear c91
              try clear c92
              try clear c94
              try clear c95
              try clear c98
              try clear c99
              try clear c100
              try clear c102
              try clear c103
              try clear c106
              try clear c109
              try clear c109b0
              try clear c110
              try clear c111
              try clear c112
              try clear c117
              try clear c117b0
              try clear c117b1
              try clear c122
              try clear c123
              try clear c124
              try clear c129
              try clear c130
              try clear c138
              try clear c139
              try clear c140
              try clear c141
              try clear c145
              try clear c146
              try clear c147
              try clear c148
              try clear c149
              try clear c151
              try clear c152
              try clear c153
              try clear c156
              try clear c157
              try clear c158
              try clear c159
              try clear c161
              try clear c162
              try clear c163
              try clear hcz101_0
              try clear hcz101_1
              try clear hcz104_0
              try clear hcz104_1
              try clear hcz113_0
              try clear hcz113_1
              try clear hcz115_0
              try clear hcz115_1
              try clear hcz125_0
              try clear hcz125_1
              try clear hcz127_0
              try clear hcz127_1
              try clear hcz131_0
              try clear hcz131_1
              try clear hcz142_0
              try clear hcz142_1
              try clear hcz150_0
              try clear hcz150_1
              try clear hcz154_0
              try clear hcz154_1
              try clear hcz160_0
              try clear hcz160_1
              try clear hcz164_0
              try clear hcz164_1
              try clear hcz18_0
              try clear hcz18_1
              try clear hcz20_0
              try clear hcz20_1
              try clear hcz28_0
              try clear hcz28_1
              try clear hcz30_0
              try clear hcz30_1
              try clear hcz35_0
              try clear hcz35_1
              try clear hcz38_0
              try clear hcz38_1
              try clear hcz45_0
              try clear hcz45_1
              try clear hcz52_0
              try clear hcz52_1
              try clear hcz55_0
              try clear hcz55_1
              try clear hcz60_0
              try clear hcz60_1
              try clear hcz63_0
              try clear hcz63_1
              try clear hcz84_0
              try clear hcz84_1
              try clear hcz8_0
              try clear hcz8_1
              try clear hcz93_0
              try clear hcz93_1
              try clear hcz96_0
              try clear hcz96_1
              try clear hfz101_0
              try clear hfz101_1
              try clear hfz104_0
              try clear hfz104_1
              try clear hfz113_0
              try clear hfz113_1
              try clear hfz115_0
              try clear hfz115_1
              try clear hfz125_0
              try clear hfz125_1
              try clear hfz127_0
              try clear hfz127_1
              try clear hfz131_0
              try clear hfz131_1
              try clear hfz142_0
              try clear hfz142_1
              try clear hfz150_0
              try clear hfz150_1
              try clear hfz154_0
              try clear hfz154_1
              try clear hfz160_0
              try clear hfz160_1
              try clear hfz164_0
              try clear hfz164_1
              try clear hfz18_0
              try clear hfz18_1
              try clear hfz20_0
              try clear hfz20_1
              try clear hfz28_0
              try clear hfz28_1
              try clear hfz30_0
              try clear hfz30_1
              try clear hfz35_0
              try clear hfz35_1
              try clear hfz38_0
              try clear hfz38_1
              try clear hfz45_0
              try clear hfz45_1
              try clear hfz52_0
              try clear hfz52_1
              try clear hfz55_0
              try clear hfz55_1
              try clear hfz60_0
              try clear hfz60_1
              try clear hfz63_0
              try clear hfz63_1
              try clear hfz84_0
              try clear hfz84_1
              try clear hfz8_0
              try clear hfz8_1
              try clear hfz93_0
              try clear hfz93_1
              try clear hfz96_0
              try clear hfz96_1
              try clear p2
              obtain ⟨kq, x108_120, rfl, HA, HJ120, HO_218001, HO_223001, HO_232001, HO_263001, BK203, BK217, BK222, BK231, BK262, HB⟩ := hcut
              have hl232001_120 := (Kd.R_reads' HO_232001.out).1
              rw [hl232001_120] at HO_232001
              (try simp only [hl232001_120])
              (try simp only [hl232001_120] at BK203)
              (try simp only [hl232001_120] at BK217)
              (try simp only [hl232001_120] at BK222)
              (try simp only [hl232001_120] at BK231)
              (try simp only [hl232001_120] at BK262)
              (try simp only [hl232001_120] at HO_218001)
              (try simp only [hl232001_120] at HO_223001)
              (try simp only [hl232001_120] at HO_263001)
              cases kq with
              | zero => exact absurd HA.out (by simp [laws_FnExactCutting.j2])
              | succ kj120 =>
               have H := HA.out
               clear HA
               simp only [laws_FnExactCutting.j2] at H
               by_cases c166 : x108_120 = true
               ·
                subst c166
                have H1 : (some false) = some r := by rw [if_pos rfl] at H; exact H
                clear H
                have H := H1
                clear H1
                obtain rfl := Option.some.inj H
                go_wp2
                go_ret
                exact ⟨by first | rfl | (simp [errW_none, errW_some] <;> rfl) | (simp [*, errW_none, errW_some] <;> rfl), by repeat (first | (with_reducible first | exact HB.out | apply below_alloc | apply pw_below_drewN | apply below_drew1 | refine below_set ?_ GE203.out | refine below_set ?_ GE217.out | refine below_set ?_ GE222.out | refine below_set ?_ GE231.out | refine below_set ?_ GE262.out) | exact HB.out)⟩
               ·
                replace c166 := Bool.eq_false_iff.mpr c166
                subst c166
                have H1 : ((laws_heldNet.f kj120 t226 t248 1).bind fun t264 => (if t264 < 0 then (some false) else (if t264 = t247 then (some true) else (some false)))) = some r := by rw [if_neg (show ¬ (false = true) by decide)] at H; exact H
                clear H
                have H := H1
                clear H1
                replace H := Option.bind_eq_some_iff.mp H
                obtain ⟨t264, A1670, H⟩ := H
                replace H : (if t264 < 0 then (some false) else (if t264 = t247 then (some true) else (some false))) = some r := H
                have A167 := Aside0.mk A1670
                clear A1670
                by_cases c168 : t264 < 0
                ·
                 rw [if_pos c168] at H
                 have c168b0 : decide (t264 < 0) = true := decide_eq_true c168
                 clear c168
                 obtain rfl := Option.some.inj H
                 have hnb169 := NB231_203.out
                 have hnc169 := NB203_231.out
                 have hnb170 := NB231_217.out
                 have hnc170 := NB217_231.out
                 have hnb171 := NB231_222.out
                 have hnc171 := NB222_231.out
                 have hnb172 := NB231_262.out
                 have hnc172 := NB262_231.out
                 have hcz173_0 : wc.cell? ⟨gb231, 0, none⟩ = some (.int .i64 t226) := (blk_cell BK231.out 0).trans rfl
                 have hcz173_1 : wc.cell? ⟨gb231, 1, none⟩ = some (.slice Ao46 t248.length co46) := (blk_cell BK231.out 1).trans rfl
                 have hfz173_0 := blk_frozen BK231.out 0
                 have hfz173_1 := blk_frozen BK231.out 1
                 go_wp2_with (first | ((with_reducible refine gate_callee (f := 24) rfl ?_); refine goesL_ (some 111) rfl rfl Try.func24 (by kernel_rfl) rfl #[.agg #[.int .i64 t226, .slice Ao46 t248.length co46], .int .i64 1] rfl (by (try simp only [List.map_toArray, List.map_cons, List.map_nil]); first | done | rfl | (simp only [List.length_drop, List.length_take]; rfl)) ?_; (with_reducible refine (laws_heldNet.calls kj120 t226 _ _ t248 1 t264 _ ?side1 ?side2 A167.out).mono ?_); (case side1 => repeat (first | exact (Kd.R_reads' HO_232001.out).2.2 | (with_reducible refine Kd.C_alloc ?_ _) | (with_reducible refine Kd.C_drewN ?_ _) | (with_reducible refine Kd.C_drew ?_))); (case side2 => exact (Kd.R_reads' HO_232001.out).2.1); rintro e w174 ⟨rfl, hb⟩; refine ⟨_, rfl, ?_⟩; have n0_ := Aside0.mk (Kd.R_below (by (with_reducible repeat (first | apply Kd.R_alloc | apply Kd.R_drewN | apply Kd.R_drew)); exact HO_218001.out) hb); have n1_ := Aside0.mk (Kd.R_below (by (with_reducible repeat (first | apply Kd.R_alloc | apply Kd.R_drewN | apply Kd.R_drew)); exact HO_223001.out) hb); have n2_ := Aside0.mk (Kd.R_below (by (with_reducible repeat (first | apply Kd.R_alloc | apply Kd.R_drewN | apply Kd.R_drew)); exact HO_232001.out) hb); have n3_ := Aside0.mk (Kd.R_below (by (with_reducible repeat (first | apply Kd.R_alloc | apply Kd.R_drewN | apply Kd.R_drew)); exact HO_263001.out) hb); have n4_ := Aside0.mk (blk_below (g := gb203) (o := .cells #[.int .i64 a0_0, .slice A0_1 l0_1.length c0_1] 37 (0, 0)) (by (with_reducible repeat (first | refine blk_drewN ?_ _ | refine blk_drew ?_ | refine blk_alloc ?_ _)); exact BK203.out) hb); have n5_ := Aside0.mk (blk_below (g := gb217) (o := .cells #[.int .i64 t212, .slice Ao29 t213.length co29] 26 (0, 0)) (by (with_reducible repeat (first | refine blk_drewN ?_ _ | refine blk_drew ?_ | refine blk_alloc ?_ _)); exact BK217.out) hb); have n6_ := Aside0.mk (blk_below (g := gb222) (o := .cells #[.int .i64 t218, .slice Ao36 t243.length co36] 26 (0, 0)) (by (with_reducible repeat (first | refine blk_drewN ?_ _ | refine blk_drew ?_ | refine blk_alloc ?_ _)); exact BK222.out) hb); have n7_ := Aside0.mk (blk_below (g := gb231) (o := .cells #[.int .i64 t226, .slice Ao46 t248.length co46] 26 (0, 0)) (by (with_reducible repeat (first | refine blk_drewN ?_ _ | refine blk_drew ?_ | refine blk_alloc ?_ _)); exact BK231.out) hb); have n8_ := Aside0.mk (blk_below (g := gb262) (o := .cells #[.int .i64 t257, .slice Ao143 t258.length co143] 26 (0, 0)) (by (with_reducible repeat (first | refine blk_drewN ?_ _ | refine blk_drew ?_ | refine blk_alloc ?_ _)); exact BK262.out) hb); have n9_ := Aside0.mk (below_step (by repeat (first | (with_reducible first | exact HB.out | apply below_alloc | apply pw_below_drewN | apply below_drew1 | refine below_set ?_ GE203.out | refine below_set ?_ GE217.out | refine below_set ?_ GE222.out | refine below_set ?_ GE231.out | refine below_set ?_ GE262.out) | exact HB.out)) hb); clear HO_218001; clear HO_223001; clear HO_232001; clear HO_263001; clear BK203; clear BK217; clear BK222; clear BK231; clear BK262; clear HB; have HO_218001 := n0_; have HO_223001 := n1_; have HO_232001 := n2_; have HO_263001 := n3_; have BK203 := n4_; have BK217 := n5_; have BK222 := n6_; have BK231 := n7_; have BK262 := n8_; have HB := n9_; clear n0_ n1_ n2_ n3_ n4_ n5_ n6_ n7_ n8_ n9_; (try clear hb); (try clear hb2); (try clear hk); (try clear hi)))
                 go_ret
                 exact ⟨by first | rfl | (simp [errW_none, errW_some] <;> rfl) | (simp [*, errW_none, errW_some] <;> rfl), by repeat (first | (with_reducible first | exact HB.out | apply below_alloc | apply pw_below_drewN | apply below_drew1 | refine below_set ?_ GE203.out | refine below_set ?_ GE217.out | refine below_set ?_ GE222.out | refine below_set ?_ GE231.out | refine below_set ?_ GE262.out) | exact HB.out)⟩
                ·
                 rw [if_neg c168] at H
                 have c168b0 : decide (t264 < 0) = false := decide_eq_false c168
                 clear c168
                 by_cases c175 : t264 = t247
                 ·
                  rw [if_pos c175] at H
                  have c175b0 : (t264 == t247) = true := beq_iff_eq.mpr c175
                  have c175b1 : (t264 != t247) = false := bne_eq_false_iff_eq.mpr c175
                  clear c175
                  obtain rfl := Option.some.inj H
                  have hnb176 := NB231_203.out
                  have hnc176 := NB203_231.out
                  have hnb177 := NB231_217.out
                  have hnc177 := NB217_231.out
                  have hnb178 := NB231_222.out
                  have hnc178 := NB222_231.out
                  have hnb179 := NB231_262.out
                  have hnc179 := NB262_231.out
                  have hcz180_0 : wc.cell? ⟨gb231, 0, none⟩ = some (.int .i64 t226) := (blk_cell BK231.out 0).trans rfl
                  have hcz180_1 : wc.cell? ⟨gb231, 1, none⟩ = some (.slice Ao46 t248.length co46) := (blk_cell BK231.out 1).trans rfl
                  have hfz180_0 := blk_frozen BK231.out 0
                  have hfz180_1 := blk_frozen BK231.out 1
                  go_wp2_with (first | ((with_reducible refine gate_callee (f := 24) rfl ?_); refine goesL_ (some 111) rfl rfl Try.func24 (by kernel_rfl) rfl #[.agg #[.int .i64 t226, .slice Ao46 t248.length co46], .int .i64 1] rfl (by (try simp only [List.map_toArray, List.map_cons, List.map_nil]); first | done | rfl | (simp only [List.length_drop, List.length_take]; rfl)) ?_; (with_reducible refine (laws_heldNet.calls kj120 t226 _ _ t248 1 t264 _ ?side1 ?side2 A167.out).mono ?_); (case side1 => repeat (first | exact (Kd.R_reads' HO_232001.out).2.2 | (with_reducible refine Kd.C_alloc ?_ _) | (with_reducible refine Kd.C_drewN ?_ _) | (with_reducible refine Kd.C_drew ?_))); (case side2 => exact (Kd.R_reads' HO_232001.out).2.1); rintro e w181 ⟨rfl, hb⟩; refine ⟨_, rfl, ?_⟩; have n0_ := Aside0.mk (Kd.R_below (by (with_reducible repeat (first | apply Kd.R_alloc | apply Kd.R_drewN | apply Kd.R_drew)); exact HO_218001.out) hb); have n1_ := Aside0.mk (Kd.R_below (by (with_reducible repeat (first | apply Kd.R_alloc | apply Kd.R_drewN | apply Kd.R_drew)); exact HO_223001.out) hb); have n2_ := Aside0.mk (Kd.R_below (by (with_reducible repeat (first | apply Kd.R_alloc | apply Kd.R_drewN | apply Kd.R_drew)); exact HO_232001.out) hb); have n3_ := Aside0.mk (Kd.R_below (by (with_reducible repeat (first | apply Kd.R_alloc | apply Kd.R_drewN | apply Kd.R_drew)); exact HO_263001.out) hb); have n4_ := Aside0.mk (blk_below (g := gb203) (o := .cells #[.int .i64 a0_0, .slice A0_1 l0_1.length c0_1] 37 (0, 0)) (by (with_reducible repeat (first | refine blk_drewN ?_ _ | refine blk_drew ?_ | refine blk_alloc ?_ _)); exact BK203.out) hb); have n5_ := Aside0.mk (blk_below (g := gb217) (o := .cells #[.int .i64 t212, .slice Ao29 t213.length co29] 26 (0, 0)) (by (with_reducible repeat (first | refine blk_drewN ?_ _ | refine blk_drew ?_ | refine blk_alloc ?_ _)); exact BK217.out) hb); have n6_ := Aside0.mk (blk_below (g := gb222) (o := .cells #[.int .i64 t218, .slice Ao36 t243.length co36] 26 (0, 0)) (by (with_reducible repeat (first | refine blk_drewN ?_ _ | refine blk_drew ?_ | refine blk_alloc ?_ _)); exact BK222.out) hb); have n7_ := Aside0.mk (blk_below (g := gb231) (o := .cells #[.int .i64 t226, .slice Ao46 t248.length co46] 26 (0, 0)) (by (with_reducible repeat (first | refine blk_drewN ?_ _ | refine blk_drew ?_ | refine blk_alloc ?_ _)); exact BK231.out) hb); have n8_ := Aside0.mk (blk_below (g := gb262) (o := .cells #[.int .i64 t257, .slice Ao143 t258.length co143] 26 (0, 0)) (by (with_reducible repeat (first | refine blk_drewN ?_ _ | refine blk_drew ?_ | refine blk_alloc ?_ _)); exact BK262.out) hb); have n9_ := Aside0.mk (below_step (by repeat (first | (with_reducible first | exact HB.out | apply below_alloc | apply pw_below_drewN | apply below_drew1 | refine below_set ?_ GE203.out | refine below_set ?_ GE217.out | refine below_set ?_ GE222.out | refine below_set ?_ GE231.out | refine below_set ?_ GE262.out) | exact HB.out)) hb); clear HO_218001; clear HO_223001; clear HO_232001; clear HO_263001; clear BK203; clear BK217; clear BK222; clear BK231; clear BK262; clear HB; have HO_218001 := n0_; have HO_223001 := n1_; have HO_232001 := n2_; have HO_263001 := n3_; have BK203 := n4_; have BK217 := n5_; have BK222 := n6_; have BK231 := n7_; have BK262 := n8_; have HB := n9_; clear n0_ n1_ n2_ n3_ n4_ n5_ n6_ n7_ n8_ n9_; (try clear hb); (try clear hb2); (try clear hk); (try clear hi)))
                  go_ret
                  exact ⟨by first | rfl | (simp [errW_none, errW_some] <;> rfl) | (simp [*, errW_none, errW_some] <;> rfl), by repeat (first | (with_reducible first | exact HB.out | apply below_alloc | apply pw_below_drewN | apply below_drew1 | refine below_set ?_ GE203.out | refine below_set ?_ GE217.out | refine below_set ?_ GE222.out | refine below_set ?_ GE231.out | refine below_set ?_ GE262.out) | exact HB.out)⟩
                 ·
                  rw [if_neg c175] at H
                  have c175b0 : (t264 == t247) = false := beq_eq_false_iff_ne.mpr c175
                  have c175b1 : (t264 != t247) = true := bne_iff_ne.mpr c175
                  obtain rfl := Option.some.inj H
                  have hnb182 := NB231_203.out
                  have hnc182 := NB203_231.out
                  have hnb183 := NB231_217.out
                  have hnc183 := NB217_231.out
                  have hnb184 := NB231_222.out
                  have hnc184 := NB222_231.out
                  have hnb185 := NB231_262.out
                  have hnc185 := NB262_231.out
                  have hcz186_0 : wc.cell? ⟨gb231, 0, none⟩ = some (.int .i64 t226) := (blk_cell BK231.out 0).trans rfl
                  have hcz186_1 : wc.cell? ⟨gb231, 1, none⟩ = some (.slice Ao46 t248.length co46) := (blk_cell BK231.out 1).trans rfl
                  have hfz186_0 := blk_frozen BK231.out 0
                  have hfz186_1 := blk_frozen BK231.out 1
                  go_wp2_with (first | ((with_reducible refine gate_callee (f := 24) rfl ?_); refine goesL_ (some 111) rfl rfl Try.func24 (by kernel_rfl) rfl #[.agg #[.int .i64 t226, .slice Ao46 t248.length co46], .int .i64 1] rfl (by (try simp only [List.map_toArray, List.map_cons, List.map_nil]); first | done | rfl | (simp only [List.length_drop, List.length_take]; rfl)) ?_; (with_reducible refine (laws_heldNet.calls kj120 t226 _ _ t248 1 t264 _ ?side1 ?side2 A167.out).mono ?_); (case side1 => repeat (first | exact (Kd.R_reads' HO_232001.out).2.2 | (with_reducible refine Kd.C_alloc ?_ _) | (with_reducible refine Kd.C_drewN ?_ _) | (with_reducible refine Kd.C_drew ?_))); (case side2 => exact (Kd.R_reads' HO_232001.out).2.1); rintro e w187 ⟨rfl, hb⟩; refine ⟨_, rfl, ?_⟩; have n0_ := Aside0.mk (Kd.R_below (by (with_reducible repeat (first | apply Kd.R_alloc | apply Kd.R_drewN | apply Kd.R_drew)); exact HO_218001.out) hb); have n1_ := Aside0.mk (Kd.R_below (by (with_reducible repeat (first | apply Kd.R_alloc | apply Kd.R_drewN | apply Kd.R_drew)); exact HO_223001.out) hb); have n2_ := Aside0.mk (Kd.R_below (by (with_reducible repeat (first | apply Kd.R_alloc | apply Kd.R_drewN | apply Kd.R_drew)); exact HO_232001.out) hb); have n3_ := Aside0.mk (Kd.R_below (by (with_reducible repeat (first | apply Kd.R_alloc | apply Kd.R_drewN | apply Kd.R_drew)); exact HO_263001.out) hb); have n4_ := Aside0.mk (blk_below (g := gb203) (o := .cells #[.int .i64 a0_0, .slice A0_1 l0_1.length c0_1] 37 (0, 0)) (by (with_reducible repeat (first | refine blk_drewN ?_ _ | refine blk_drew ?_ | refine blk_alloc ?_ _)); exact BK203.out) hb); have n5_ := Aside0.mk (blk_below (g := gb217) (o := .cells #[.int .i64 t212, .slice Ao29 t213.length co29] 26 (0, 0)) (by (with_reducible repeat (first | refine blk_drewN ?_ _ | refine blk_drew ?_ | refine blk_alloc ?_ _)); exact BK217.out) hb); have n6_ := Aside0.mk (blk_below (g := gb222) (o := .cells #[.int .i64 t218, .slice Ao36 t243.length co36] 26 (0, 0)) (by (with_reducible repeat (first | refine blk_drewN ?_ _ | refine blk_drew ?_ | refine blk_alloc ?_ _)); exact BK222.out) hb); have n7_ := Aside0.mk (blk_below (g := gb231) (o := .cells #[.int .i64 t226, .slice Ao46 t248.length co46] 26 (0, 0)) (by (with_reducible repeat (first | refine blk_drewN ?_ _ | refine blk_drew ?_ | refine blk_alloc ?_ _)); exact BK231.out) hb); have n8_ := Aside0.mk (blk_below (g := gb262) (o := .cells #[.int .i64 t257, .slice Ao143 t258.length co143] 26 (0, 0)) (by (with_reducible repeat (first | refine blk_drewN ?_ _ | refine blk_drew ?_ | refine blk_alloc ?_ _)); exact BK262.out) hb); have n9_ := Aside0.mk (below_step (by repeat (first | (with_reducible first | exact HB.out | apply below_alloc | apply pw_below_drewN | apply below_drew1 | refine below_set ?_ GE203.out | refine below_set ?_ GE217.out | refine below_set ?_ GE222.out | refine below_set ?_ GE231.out | refine below_set ?_ GE262.out) | exact HB.out)) hb); clear HO_218001; clear HO_223001; clear HO_232001; clear HO_263001; clear BK203; clear BK217; clear BK222; clear BK231; clear BK262; clear HB; have HO_218001 := n0_; have HO_223001 := n1_; have HO_232001 := n2_; have HO_263001 := n3_; have BK203 := n4_; have BK217 := n5_; have BK222 := n6_; have BK231 := n7_; have BK262 := n8_; have HB := n9_; clear n0_ n1_ n2_ n3_ n4_ n5_ n6_ n7_ n8_ n9_; (try clear hb); (try clear hb2); (try clear hk); (try clear hi)))
                  go_ret
                  exact ⟨by first | rfl | (simp [errW_none, errW_some] <;> rfl) | (simp [*, errW_none, errW_some] <;> rfl), by repeat (first | (with_reducible first | exact HB.out | apply below_alloc | apply pw_below_drewN | apply below_drew1 | refine below_set ?_ GE203.out | refine below_set ?_ GE217.out | refine below_set ?_ GE222.out | refine below_set ?_ GE231.out | refine below_set ?_ GE262.out) | exact HB.out)⟩
            ·
             rw [if_neg c117] at H
             have c117b0 : (t249 == t247) = false := beq_eq_false_iff_ne.mpr c117
             have c117b1 : (t249 != t247) = true := bne_iff_ne.mpr c117
             obtain rfl := Option.some.inj H
             have hnb188 := NB231_203.out
             have hnc188 := NB203_231.out
             have hnb189 := NB231_217.out
             have hnc189 := NB217_231.out
             have hnb190 := NB231_222.out
             have hnc190 := NB222_231.out
             have hcz191_0 : wc.cell? ⟨gb231, 0, none⟩ = some (.int .i64 t226) := (blk_cell BK231.out 0).trans rfl
             have hcz191_1 : wc.cell? ⟨gb231, 1, none⟩ = some (.slice Ao46 t227.length co46) := (blk_cell BK231.out 1).trans rfl
             have hfz191_0 := blk_frozen BK231.out 0
             have hfz191_1 := blk_frozen BK231.out 1
             go_wp2_with (first | ((with_reducible refine gate_callee (f := 23) rfl ?_); refine goesL_ (some 83) rfl rfl Try.func23 (by kernel_rfl) rfl #[.agg #[.int .i64 t226, .slice Ao46 t227.length co46], .int .i64 1] rfl (by (try simp only [List.map_toArray, List.map_cons, List.map_nil]); first | done | rfl | (simp only [List.length_drop, List.length_take]; rfl)) ?_; (with_reducible refine (laws_markNet.calls kj73 t226 (fun k_ => some k_ = (.slice Ao46 t227.length co46 : Value).ownBlock) (.slice Ao46 t227.length co46) t227 1 t247 t248 w _ ?side1 ?side2 A107.out).mono ?_); (case side1 => repeat (first | (with_reducible first | exact HB.out | apply below_alloc | apply pw_below_drewN | apply below_drew1 | refine below_set ?_ GE203.out | refine below_set ?_ GE217.out | refine below_set ?_ GE222.out | refine below_set ?_ GE231.out) | exact HB.out)); (case side2 => exact Kd.R_tight rfl HO_232001.out); rintro e w192 ⟨rfl, hy0, hb, hkp⟩; refine ⟨_, rfl, ?_⟩; have n0_ := Aside0.mk (Kd.R_mono (ok' := fun k_ => some k_ ≠ (.slice Ao36 t243.length co36 : Value).ownBlock ∧ some k_ ≠ (.slice Ao46 t227.length co46 : Value).ownBlock) (Kd.R_keptB (HO_218001.out) hkp (fun k_ hk_ hs_ => by first | exact (hk_.2) hs_ | simp_all)) (fun k_ hk_ => by first | exact ⟨hk_.1.1, hk_.1.2⟩ | simp_all)); have n1_ := Aside0.mk (Kd.R_mono (ok' := fun k_ => some k_ ≠ (.slice Ao29 t213.length co29 : Value).ownBlock ∧ some k_ ≠ (.slice Ao46 t227.length co46 : Value).ownBlock) (Kd.R_keptB (HO_223001.out) hkp (fun k_ hk_ hs_ => by first | exact (hk_.2) hs_ | simp_all)) (fun k_ hk_ => by first | exact ⟨hk_.1.1, hk_.1.2⟩ | simp_all)); have n2_ := Aside0.mk (Kd.R_reok rfl hy0 (fun k_ e_ => HO_232001.out.1 k_ e_)); have n3_ := Aside0.mk (blk_kept (by first | with_reducible exact BK203.out | exact blk_drewN BK203.out _ | exact blk_drewN (blk_drewN BK203.out _) _ | ((with_reducible repeat (first | refine blk_drewN ?_ _ | refine blk_drew ?_ | refine blk_alloc ?_ _)); exact BK203.out)) hkp (fun hs_ => (fun e_ => (Kd.R_ne HO_232001.out BK203.out (by decide)) e_) hs_)); have n4_ := Aside0.mk (blk_kept (by first | with_reducible exact BK217.out | exact blk_drewN BK217.out _ | exact blk_drewN (blk_drewN BK217.out _) _ | ((with_reducible repeat (first | refine blk_drewN ?_ _ | refine blk_drew ?_ | refine blk_alloc ?_ _)); exact BK217.out)) hkp (fun hs_ => (fun e_ => (Kd.R_ne HO_232001.out BK217.out (by decide)) e_) hs_)); have n5_ := Aside0.mk (blk_kept (by first | with_reducible exact BK222.out | exact blk_drewN BK222.out _ | exact blk_drewN (blk_drewN BK222.out _) _ | ((with_reducible repeat (first | refine blk_drewN ?_ _ | refine blk_drew ?_ | refine blk_alloc ?_ _)); exact BK222.out)) hkp (fun hs_ => (fun e_ => (Kd.R_ne HO_232001.out BK222.out (by decide)) e_) hs_)); have n6_ := Aside0.mk (blk_kept (by first | with_reducible exact BK231.out | exact blk_drewN BK231.out _ | exact blk_drewN (blk_drewN BK231.out _) _ | ((with_reducible repeat (first | refine blk_drewN ?_ _ | refine blk_drew ?_ | refine blk_alloc ?_ _)); exact BK231.out)) hkp (fun hs_ => (fun e_ => (Kd.R_ne HO_232001.out BK231.out (by decide)) e_) hs_)); have n7_ := Aside0.mk (hb); clear HO_218001; clear HO_223001; clear HO_232001; clear BK203; clear BK217; clear BK222; clear BK231; clear HB; have HO_218001 := n0_; have HO_223001 := n1_; have HO_232001 := n2_; have BK203 := n3_; have BK217 := n4_; have BK222 := n5_; have BK231 := n6_; have HB := n7_; clear n0_ n1_ n2_ n3_ n4_ n5_ n6_ n7_; (try clear hb); (try clear hkp); (try clear hy0); have hcz193_0 : w192.cell? ⟨gb231, 0, none⟩ = some (.int .i64 t226) := (blk_cell BK231.out 0).trans rfl; have hcz193_1 : w192.cell? ⟨gb231, 1, none⟩ = some (.slice Ao46 t227.length co46) := (blk_cell BK231.out 1).trans rfl; have hfz193_0 := blk_frozen BK231.out 0; have hfz193_1 := blk_frozen BK231.out 1) | ((with_reducible refine gate_callee (f := 24) rfl ?_); refine goesL_ (some 86) rfl rfl Try.func24 (by kernel_rfl) rfl #[.agg #[.int .i64 t226, .slice Ao46 t248.length co46], .int .i64 1] rfl (by (try simp only [List.map_toArray, List.map_cons, List.map_nil]); first | done | (rw [show t248.length = t227.length from (Kd.R_reads' HO_232001.out).1.symm] <;> rfl) | rfl | (simp only [List.length_drop, List.length_take]; rfl)) ?_; (with_reducible refine (laws_heldNet.calls kj73 t226 _ _ t248 1 t249 _ ?side1 ?side2 A108.out).mono ?_); (case side1 => repeat (first | exact (Kd.R_reads' HO_232001.out).2.2 | (with_reducible refine Kd.C_alloc ?_ _) | (with_reducible refine Kd.C_drewN ?_ _) | (with_reducible refine Kd.C_drew ?_))); (case side2 => rw [show t248.length = t227.length from (Kd.R_reads' HO_232001.out).1.symm]; exact (Kd.R_reads' HO_232001.out).2.1); rintro e w194 ⟨rfl, hb⟩; refine ⟨_, rfl, ?_⟩; have n0_ := Aside0.mk (Kd.R_below (by (with_reducible repeat (first | apply Kd.R_alloc | apply Kd.R_drewN | apply Kd.R_drew)); exact HO_218001.out) hb); have n1_ := Aside0.mk (Kd.R_below (by (with_reducible repeat (first | apply Kd.R_alloc | apply Kd.R_drewN | apply Kd.R_drew)); exact HO_223001.out) hb); have n2_ := Aside0.mk (Kd.R_below (by (with_reducible repeat (first | apply Kd.R_alloc | apply Kd.R_drewN | apply Kd.R_drew)); exact HO_232001.out) hb); have n3_ := Aside0.mk (blk_below (g := gb203) (o := .cells #[.int .i64 a0_0, .slice A0_1 l0_1.length c0_1] 37 (0, 0)) (by (with_reducible repeat (first | refine blk_drewN ?_ _ | refine blk_drew ?_ | refine blk_alloc ?_ _)); exact BK203.out) hb); have n4_ := Aside0.mk (blk_below (g := gb217) (o := .cells #[.int .i64 t212, .slice Ao29 t213.length co29] 26 (0, 0)) (by (with_reducible repeat (first | refine blk_drewN ?_ _ | refine blk_drew ?_ | refine blk_alloc ?_ _)); exact BK217.out) hb); have n5_ := Aside0.mk (blk_below (g := gb222) (o := .cells #[.int .i64 t218, .slice Ao36 t243.length co36] 26 (0, 0)) (by (with_reducible repeat (first | refine blk_drewN ?_ _ | refine blk_drew ?_ | refine blk_alloc ?_ _)); exact BK222.out) hb); have n6_ := Aside0.mk (blk_below (g := gb231) (o := .cells #[.int .i64 t226, .slice Ao46 t227.length co46] 26 (0, 0)) (by (with_reducible repeat (first | refine blk_drewN ?_ _ | refine blk_drew ?_ | refine blk_alloc ?_ _)); exact BK231.out) hb); have n7_ := Aside0.mk (below_step (by repeat (first | (with_reducible first | exact HB.out | apply below_alloc | apply pw_below_drewN | apply below_drew1 | refine below_set ?_ GE203.out | refine below_set ?_ GE217.out | refine below_set ?_ GE222.out | refine below_set ?_ GE231.out) | exact HB.out)) hb); clear HO_218001; clear HO_223001; clear HO_232001; clear BK203; clear BK217; clear BK222; clear BK231; clear HB; have HO_218001 := n0_; have HO_223001 := n1_; have HO_232001 := n2_; have BK203 := n3_; have BK217 := n4_; have BK222 := n5_; have BK231 := n6_; have HB := n7_; clear n0_ n1_ n2_ n3_ n4_ n5_ n6_ n7_; (try clear hb); (try clear hb2); (try clear hk); (try clear hi)))
             go_ret
             exact ⟨by first | rfl | (simp [errW_none, errW_some] <;> rfl) | (simp [*, errW_none, errW_some] <;> rfl), by repeat (first | (with_reducible first | exact HB.out | apply below_alloc | apply pw_below_drewN | apply below_drew1 | refine below_set ?_ GE203.out | refine below_set ?_ GE217.out | refine below_set ?_ GE222.out | refine below_set ?_ GE231.out) | exact HB.out)⟩
       ·
        replace c71 := Bool.eq_false_iff.mpr c71
        subst c71
        have H1 : (some false) = some r := by rw [if_neg (show ¬ (false = true) by decide)] at H; exact H
        clear H
        have H := H1
        clear H1
        obtain rfl := Option.some.inj H
        try go_wp2
        have n0_ := Aside0.mk (Kd.R_drew HO_9.out)
        have n1_ := Aside0.mk (Kd.R_drew HO_218001.out)
        have n2_ := Aside0.mk (Kd.R_drew HO_223001.out)
        have n3_ := Aside0.mk (Kd.R_drew HO_232001.out)
        have n4_ := Aside0.mk (blk_drew BK203.out)
        have n5_ := Aside0.mk (blk_drew BK217.out)
        have n6_ := Aside0.mk (blk_drew BK222.out)
        have n7_ := Aside0.mk (blk_drew BK231.out)
        have n8_ := Aside0.mk (below_drew1 HB.out)
        clear HO_9
        clear HO_218001
        clear HO_223001
        clear HO_232001
        clear BK203
        clear BK217
        clear BK222
        clear BK231
        clear HB
        have HO_9 := n0_
        have HO_218001 := n1_
        have HO_223001 := n2_
        have HO_232001 := n3_
        have BK203 := n4_
        have BK217 := n5_
        have BK222 := n6_
        have BK231 := n7_
        have HB := n8_
        clear n0_ n1_ n2_ n3_ n4_ n5_ n6_ n7_ n8_
        refine start_ (n := 5) (S := fun w' => w'.cell? ⟨gb222, 0, none⟩ = some (.int .i64 t218) ∧ w'.cell? ⟨gb222, 1, none⟩ = some (.slice Ao36 t219.length co36) ∧ w'.cell? ⟨gb203, 0, none⟩ = some (.int .i64 a0_0) ∧ w'.cell? ⟨gb203, 1, none⟩ = some (.slice A0_1 l0_1.length c0_1)) (ds := []) #[false, false, false, false, false] (by kernel_rfl) rfl rfl ⟨(blk_cell BK222.out 0).trans rfl, (blk_cell BK222.out 1).trans rfl, (blk_cell BK203.out 0).trans rfl, (blk_cell BK203.out 1).trans rfl⟩ (fun hHeld => ?_)
        generalize wc.drew = w195 at HO_9 HO_218001 HO_223001 HO_232001 BK203 BK217 BK222 BK231 HB hHeld ⊢
        refine take_ (i := 0) (N := some 52) (v := ?_) (a' := ?_) #[true, false, false, false, false] rfl rfl (by kernel_rfl) (fun _ _ _ h => h) (Or.inl ⟨by rfl, ?_⟩) hHeld ?_ ?_
        rotate_left
        ·
         rintro w' ⟨s0, s1, s2, s3⟩
         go_simp
         with_reducible rfl
        rotate_left
        ·
         simp only [Act.put, List.setIfInBounds_toArray, List.set_cons_zero, List.set_cons_succ, i64_w, i32_w]
         rfl
        refine take_ (i := 1) (N := some 53) (v := ?_) (a' := ?_) #[true, true, false, false, false] rfl rfl (by kernel_rfl) (fun _ _ _ h => h) (Or.inl ⟨by rfl, ?_⟩) hHeld ?_ ?_
        rotate_left
        ·
         rintro w' ⟨s0, s1, s2, s3⟩
         go_simp
         with_reducible rfl
        rotate_left
        ·
         simp only [Act.put, List.setIfInBounds_toArray, List.set_cons_zero, List.set_cons_succ, i64_w, i32_w]
         rfl
        refine one_ (i := 2) (N := some 54) #[true, true, true, false, false] rfl rfl (by kernel_rfl) (by decide) (fun K hK => ?_)
        refine goes_ Try.func19 (by kernel_rfl) rfl #[.agg #[.int .i64 a0_0, .slice A0_1 l0_1.length c0_1]] (by rfl) rfl rfl (by (try simp only [List.map_toArray, List.map_cons, List.map_nil]); first | done | rfl | (simp only [List.length_drop, List.length_take]; rfl)) ?_
        with_reducible refine (laws_toNet.calls kj15 a0_0 _ _ l0_1 t233 t234 _ ?side1 ?side2 A66.out).mono ?_
        (case side1 => repeat (first | exact (Kd.C_below HR0_1.out HB.out) | (with_reducible refine Kd.C_alloc ?_ _) | (with_reducible refine Kd.C_drewN ?_ _) | (with_reducible refine Kd.C_drew ?_)))
        (case side2 => exact HC0_1.out)
        rintro e w196 ⟨v235, rfl, ho0, hb⟩
        refine ⟨_, rfl, ?_⟩
        have n0_ := Aside0.mk (Kd.R_below (by (with_reducible repeat (first | apply Kd.R_alloc | apply Kd.R_drewN | apply Kd.R_drew)); exact HO_9.out) hb)
        have n1_ := Aside0.mk (Kd.R_elder' (by (with_reducible repeat (first | apply Kd.R_alloc | apply Kd.R_drewN | apply Kd.R_drew)); exact HO_218001.out) (Kd.R_base ho0) hb)
        have n2_ := Aside0.mk (Kd.R_elder' (by (with_reducible repeat (first | apply Kd.R_alloc | apply Kd.R_drewN | apply Kd.R_drew)); exact HO_223001.out) (Kd.R_base ho0) hb)
        have n3_ := Aside0.mk (Kd.R_elder' (by (with_reducible repeat (first | apply Kd.R_alloc | apply Kd.R_drewN | apply Kd.R_drew)); exact HO_232001.out) (Kd.R_base ho0) hb)
        have n4_ := Aside0.mk (Kd.R_lower (Kd.R_new' (Kd.R_new' (Kd.R_new' ho0 (Kd.R_lt (by (with_reducible repeat (first | apply Kd.R_alloc | apply Kd.R_drewN | apply Kd.R_drew)); exact HO_218001.out))) (Kd.R_lt (by (with_reducible repeat (first | apply Kd.R_alloc | apply Kd.R_drewN | apply Kd.R_drew)); exact HO_223001.out))) (Kd.R_lt (by (with_reducible repeat (first | apply Kd.R_alloc | apply Kd.R_drewN | apply Kd.R_drew)); exact HO_232001.out))) (below_size (by repeat (first | (with_reducible first | exact HB.out | apply below_alloc | apply pw_below_drewN | apply below_drew1 | refine below_set ?_ GE203.out | refine below_set ?_ GE217.out | refine below_set ?_ GE222.out | refine below_set ?_ GE231.out) | exact HB.out))))
        have n5_ := Aside0.mk (blk_below (g := gb203) (o := .cells #[.int .i64 a0_0, .slice A0_1 l0_1.length c0_1] 37 (0, 0)) (by (with_reducible repeat (first | refine blk_drewN ?_ _ | refine blk_drew ?_ | refine blk_alloc ?_ _)); exact BK203.out) hb)
        have n6_ := Aside0.mk (blk_below (g := gb217) (o := .cells #[.int .i64 t212, .slice Ao29 t213.length co29] 26 (0, 0)) (by (with_reducible repeat (first | refine blk_drewN ?_ _ | refine blk_drew ?_ | refine blk_alloc ?_ _)); exact BK217.out) hb)
        have n7_ := Aside0.mk (blk_below (g := gb222) (o := .cells #[.int .i64 t218, .slice Ao36 t219.length co36] 26 (0, 0)) (by (with_reducible repeat (first | refine blk_drewN ?_ _ | refine blk_drew ?_ | refine blk_alloc ?_ _)); exact BK222.out) hb)
        have n8_ := Aside0.mk (blk_below (g := gb231) (o := .cells #[.int .i64 t226, .slice Ao46 t227.length co46] 26 (0, 0)) (by (with_reducible repeat (first | refine blk_drewN ?_ _ | refine blk_drew ?_ | refine blk_alloc ?_ _)); exact BK231.out) hb)
        have n9_ := Aside0.mk (below_step (by repeat (first | (with_reducible first | exact HB.out | apply below_alloc | apply pw_below_drewN | apply below_drew1 | refine below_set ?_ GE203.out | refine below_set ?_ GE217.out | refine below_set ?_ GE222.out | refine below_set ?_ GE231.out) | exact HB.out)) hb)
        clear HO_9
        clear HO_218001
        clear HO_223001
        clear HO_232001
        clear BK203
        clear BK217
        clear BK222
        clear BK231
        clear HB
        have HO_9 := n0_
        have HO_218001 := n1_
        have HO_223001 := n2_
        have HO_232001 := n3_
        have HO236 := n4_
        have BK203 := n5_
        have BK217 := n6_
        have BK222 := n7_
        have BK231 := n8_
        have HB := n9_
        clear n0_ n1_ n2_ n3_ n4_ n5_ n6_ n7_ n8_ n9_
        (try clear hb)
        (try clear hb2)
        (try clear hk)
        (try clear hi)
        (try clear ho0)
        obtain ⟨Ao197, co197, eo197⟩ := Kd.R_slice HO236.out
        (first | subst eo197 | (injection eo197 with f1_ f2_ f3_; have f4_ := f1_.symm; have f5_ := f3_.symm; clear f1_ f2_ f3_; subst f4_; subst f5_))
        refine hK.out _ _ ⟨(blk_cell BK222.out 0).trans rfl, (blk_cell BK222.out 1).trans rfl, (blk_cell BK203.out 0).trans rfl, (blk_cell BK203.out 1).trans rfl⟩ (fun hHeld => ?_)
        clear hK K
        refine norm_ (a' := ?_) ?_ ?_
        rotate_left
        ·
         show Act.put _ (some 54) _ = _
         simp only [Act.put, List.setIfInBounds_toArray, List.set_cons_zero, List.set_cons_succ, i64_w, i32_w]
         rfl
        refine one_ (i := 3) (N := some 55) #[true, true, true, true, false] rfl rfl (by kernel_rfl) (by decide) (fun K hK => ?_)
        refine goes_ Try.func21 (by kernel_rfl) rfl #[.agg #[.int .i64 t218, .slice Ao36 t219.length co36], .agg #[.int .i64 t233, .slice Ao197 t234.length co197]] (by rfl) rfl rfl (by (try simp only [List.map_toArray, List.map_cons, List.map_nil]); first | done | rfl | (simp only [List.length_drop, List.length_take]; rfl)) ?_
        with_reducible refine (laws_eqNet.calls kj15 t218 _ _ t219 t233 _ _ t234 true _ ?side1 ?side2 ?side3 ?side4 A67.out).mono ?_
        (case side1 => repeat (first | exact (Kd.R_reads' HO_223001.out).2.2 | (with_reducible refine Kd.C_alloc ?_ _) | (with_reducible refine Kd.C_drewN ?_ _) | (with_reducible refine Kd.C_drew ?_)))
        (case side2 => exact (Kd.R_reads' HO_223001.out).2.1)
        (case side3 => repeat (first | exact (Kd.R_reads' HO236.out).2.2 | (with_reducible refine Kd.C_alloc ?_ _) | (with_reducible refine Kd.C_drewN ?_ _) | (with_reducible refine Kd.C_drew ?_)))
        (case side4 => exact (Kd.R_reads' HO236.out).2.1)
        rintro e w198 ⟨rfl, hb⟩
        refine ⟨_, rfl, ?_⟩
        have n0_ := Aside0.mk (Kd.R_below (by (with_reducible repeat (first | apply Kd.R_alloc | apply Kd.R_drewN | apply Kd.R_drew)); exact HO_9.out) hb)
        have n1_ := Aside0.mk (Kd.R_below (by (with_reducible repeat (first | apply Kd.R_alloc | apply Kd.R_drewN | apply Kd.R_drew)); exact HO_218001.out) hb)
        have n2_ := Aside0.mk (Kd.R_below (by (with_reducible repeat (first | apply Kd.R_alloc | apply Kd.R_drewN | apply Kd.R_drew)); exact HO_223001.out) hb)
        have n3_ := Aside0.mk (Kd.R_below (by (with_reducible repeat (first | apply Kd.R_alloc | apply Kd.R_drewN | apply Kd.R_drew)); exact HO_232001.out) hb)
        have n4_ := Aside0.mk (Kd.R_below (by (with_reducible repeat (first | apply Kd.R_alloc | apply Kd.R_drewN | apply Kd.R_drew)); exact HO236.out) hb)
        have n5_ := Aside0.mk (blk_below (g := gb203) (o := .cells #[.int .i64 a0_0, .slice A0_1 l0_1.length c0_1] 37 (0, 0)) (by (with_reducible repeat (first | refine blk_drewN ?_ _ | refine blk_drew ?_ | refine blk_alloc ?_ _)); exact BK203.out) hb)
        have n6_ := Aside0.mk (blk_below (g := gb217) (o := .cells #[.int .i64 t212, .slice Ao29 t213.length co29] 26 (0, 0)) (by (with_reducible repeat (first | refine blk_drewN ?_ _ | refine blk_drew ?_ | refine blk_alloc ?_ _)); exact BK217.out) hb)
        have n7_ := Aside0.mk (blk_below (g := gb222) (o := .cells #[.int .i64 t218, .slice Ao36 t219.length co36] 26 (0, 0)) (by (with_reducible repeat (first | refine blk_drewN ?_ _ | refine blk_drew ?_ | refine blk_alloc ?_ _)); exact BK222.out) hb)
        have n8_ := Aside0.mk (blk_below (g := gb231) (o := .cells #[.int .i64 t226, .slice Ao46 t227.length co46] 26 (0, 0)) (by (with_reducible repeat (first | refine blk_drewN ?_ _ | refine blk_drew ?_ | refine blk_alloc ?_ _)); exact BK231.out) hb)
        have n9_ := Aside0.mk (below_step (by repeat (first | (with_reducible first | exact HB.out | apply below_alloc | apply pw_below_drewN | apply below_drew1 | refine below_set ?_ GE203.out | refine below_set ?_ GE217.out | refine below_set ?_ GE222.out | refine below_set ?_ GE231.out) | exact HB.out)) hb)
        clear HO_9
        clear HO_218001
        clear HO_223001
        clear HO_232001
        clear HO236
        clear BK203
        clear BK217
        clear BK222
        clear BK231
        clear HB
        have HO_9 := n0_
        have HO_218001 := n1_
        have HO_223001 := n2_
        have HO_232001 := n3_
        have HO236 := n4_
        have BK203 := n5_
        have BK217 := n6_
        have BK222 := n7_
        have BK231 := n8_
        have HB := n9_
        clear n0_ n1_ n2_ n3_ n4_ n5_ n6_ n7_ n8_ n9_
        (try clear hb)
        (try clear hb2)
        (try clear hk)
        (try clear hi)
        refine hK.out _ _ ⟨(blk_cell BK222.out 0).trans rfl, (blk_cell BK222.out 1).trans rfl, (blk_cell BK203.out 0).trans rfl, (blk_cell BK203.out 1).trans rfl⟩ (fun hHeld => ?_)
        clear hK K
        refine norm_ (a' := ?_) ?_ ?_
        rotate_left
        ·
         show Act.put _ (some 55) _ = _
         simp only [Act.put, List.setIfInBounds_toArray, List.set_cons_zero, List.set_cons_succ, i64_w, i32_w]
         rfl
        refine pure_ (i := 4) (N := some 56) (v := ?_) (a' := ?_) #[true, true, true, true, true] rfl rfl (by kernel_rfl) (fun _ _ _ h => h) (Or.inl ⟨by rfl, ?_⟩) ?_ ?_
        rotate_left
        ·
         intro w'
         go_simp
         with_reducible rfl
        rotate_left
        ·
         simp only [Act.put, List.setIfInBounds_toArray, List.set_cons_zero, List.set_cons_succ, i64_w, i32_w]
         rfl
        refine done_ (by kernel_rfl) ?_
        try go_wp2_with (first | ((with_reducible refine gate_callee (f := 30) rfl ?_); refine goesL_ (some 59) rfl rfl Try.func30 (by kernel_rfl) rfl #[.slice A1 l1.length c1] rfl (by (try simp only [List.map_toArray, List.map_cons, List.map_nil]); first | done | rfl | (simp only [List.length_drop, List.length_take]; rfl)) ?_; (with_reducible refine (laws_toInt64S.calls kj15 _ _ l1 t238 _ ?side1 ?side2 A69.out).mono ?_); (case side1 => repeat (first | exact (Kd.C_below HR1.out HB.out) | (with_reducible refine Kd.C_alloc ?_ _) | (with_reducible refine Kd.C_drewN ?_ _) | (with_reducible refine Kd.C_drew ?_))); (case side2 => exact HC1.out); rintro e w199 ⟨v239, rfl, ho0, hb⟩; refine ⟨_, rfl, ?_⟩; have n0_ := Aside0.mk (Kd.R_elder' (by (with_reducible repeat (first | apply Kd.R_alloc | apply Kd.R_drewN | apply Kd.R_drew)); exact HO_9.out) (Kd.R_base ho0) hb); have n1_ := Aside0.mk (Kd.R_below (by (with_reducible repeat (first | apply Kd.R_alloc | apply Kd.R_drewN | apply Kd.R_drew)); exact HO_218001.out) hb); have n2_ := Aside0.mk (Kd.R_below (by (with_reducible repeat (first | apply Kd.R_alloc | apply Kd.R_drewN | apply Kd.R_drew)); exact HO_223001.out) hb); have n3_ := Aside0.mk (Kd.R_below (by (with_reducible repeat (first | apply Kd.R_alloc | apply Kd.R_drewN | apply Kd.R_drew)); exact HO_232001.out) hb); have n4_ := Aside0.mk (Kd.R_below (by (with_reducible repeat (first | apply Kd.R_alloc | apply Kd.R_drewN | apply Kd.R_drew)); exact HO236.out) hb); have n5_ := Aside0.mk (Kd.R_lower (Kd.R_new' ho0 (Kd.R_lt (by (with_reducible repeat (first | apply Kd.R_alloc | apply Kd.R_drewN | apply Kd.R_drew)); exact HO_9.out))) (below_size (by repeat (first | (with_reducible first | exact HB.out | apply below_alloc | apply pw_below_drewN | apply below_drew1 | refine below_set ?_ GE203.out | refine below_set ?_ GE217.out | refine below_set ?_ GE222.out | refine below_set ?_ GE231.out) | exact HB.out)))); have n6_ := Aside0.mk (blk_below (g := gb203) (o := .cells #[.int .i64 a0_0, .slice A0_1 l0_1.length c0_1] 37 (0, 0)) (by (with_reducible repeat (first | refine blk_drewN ?_ _ | refine blk_drew ?_ | refine blk_alloc ?_ _)); exact BK203.out) hb); have n7_ := Aside0.mk (blk_below (g := gb217) (o := .cells #[.int .i64 t212, .slice Ao29 t213.length co29] 26 (0, 0)) (by (with_reducible repeat (first | refine blk_drewN ?_ _ | refine blk_drew ?_ | refine blk_alloc ?_ _)); exact BK217.out) hb); have n8_ := Aside0.mk (blk_below (g := gb222) (o := .cells #[.int .i64 t218, .slice Ao36 t219.length co36] 26 (0, 0)) (by (with_reducible repeat (first | refine blk_drewN ?_ _ | refine blk_drew ?_ | refine blk_alloc ?_ _)); exact BK222.out) hb); have n9_ := Aside0.mk (blk_below (g := gb231) (o := .cells #[.int .i64 t226, .slice Ao46 t227.length co46] 26 (0, 0)) (by (with_reducible repeat (first | refine blk_drewN ?_ _ | refine blk_drew ?_ | refine blk_alloc ?_ _)); exact BK231.out) hb); have n10_ := Aside0.mk (below_step (by repeat (first | (with_reducible first | exact HB.out | apply below_alloc | apply pw_below_drewN | apply below_drew1 | refine below_set ?_ GE203.out | refine below_set ?_ GE217.out | refine below_set ?_ GE222.out | refine below_set ?_ GE231.out) | exact HB.out)) hb); clear HO_9; clear HO_218001; clear HO_223001; clear HO_232001; clear HO236; clear BK203; clear BK217; clear BK222; clear BK231; clear HB; have HO_9 := n0_; have HO_218001 := n1_; have HO_223001 := n2_; have HO_232001 := n3_; have HO236 := n4_; have HO240 := n5_; have BK203 := n6_; have BK217 := n7_; have BK222 := n8_; have BK231 := n9_; have HB := n10_; clear n0_ n1_ n2_ n3_ n4_ n5_ n6_ n7_ n8_ n9_ n10_; (try clear hb); (try clear hb2); (try clear hk); (try clear hi); (try clear ho0); obtain ⟨Ao200, co200, eo200⟩ := Kd.R_slice HO240.out; subst eo200) | ((with_reducible refine gate_callee (f := 31) rfl ?_); refine goesL_ (some 60) rfl rfl Try.func31 (by kernel_rfl) rfl #[.slice Ao39 t223.length co39, .slice Ao200 t238.length co200] rfl (by (try simp only [List.map_toArray, List.map_cons, List.map_nil]); first | done | rfl | (simp only [List.length_drop, List.length_take]; rfl)) ?_; (with_reducible refine (laws_eqInt64S.calls kj15 _ _ t223 _ _ t238 false _ ?side1 ?side2 ?side3 ?side4 A70.out).mono ?_); (case side1 => repeat (first | exact (Kd.R_reads' HO_9.out).2.2 | (with_reducible refine Kd.C_alloc ?_ _) | (with_reducible refine Kd.C_drewN ?_ _) | (with_reducible refine Kd.C_drew ?_))); (case side2 => exact (Kd.R_reads' HO_9.out).2.1); (case side3 => repeat (first | exact (Kd.R_reads' HO240.out).2.2 | (with_reducible refine Kd.C_alloc ?_ _) | (with_reducible refine Kd.C_drewN ?_ _) | (with_reducible refine Kd.C_drew ?_))); (case side4 => exact (Kd.R_reads' HO240.out).2.1); rintro e w' ⟨rfl, ⟨nd, rfl⟩⟩; refine ⟨_, rfl, ?_⟩))
        go_ret
        exact ⟨by first | rfl | (simp [errW_none, errW_some] <;> rfl) | (simp [*, errW_none, errW_some] <;> rfl), by repeat (first | (with_reducible first | exact HB.out | apply below_alloc | apply pw_below_drewN | apply below_drew1 | refine below_set ?_ GE203.out | refine below_set ?_ GE217.out | refine below_set ?_ GE222.out | refine below_set ?_ GE231.out) | exact HB.out)⟩
      ·
       replace c68 := Bool.eq_false_iff.mpr c68
       subst c68
       have H1 : (some false) = some r := by rw [if_neg (show ¬ (false = true) by decide)] at H; exact H
       clear H
       have H := H1
       clear H1
       obtain rfl := Option.some.inj H
       try go_wp2
       have n0_ := Aside0.mk (Kd.R_drew HO_9.out)
       have n1_ := Aside0.mk (Kd.R_drew HO_218001.out)
       have n2_ := Aside0.mk (Kd.R_drew HO_223001.out)
       have n3_ := Aside0.mk (Kd.R_drew HO_232001.out)
       have n4_ := Aside0.mk (blk_drew BK203.out)
       have n5_ := Aside0.mk (blk_drew BK217.out)
       have n6_ := Aside0.mk (blk_drew BK222.out)
       have n7_ := Aside0.mk (blk_drew BK231.out)
       have n8_ := Aside0.mk (below_drew1 HB.out)
       clear HO_9
       clear HO_218001
       clear HO_223001
       clear HO_232001
       clear BK203
       clear BK217
       clear BK222
       clear BK231
       clear HB
       have HO_9 := n0_
       have HO_218001 := n1_
       have HO_223001 := n2_
       have HO_232001 := n3_
       have BK203 := n4_
       have BK217 := n5_
       have BK222 := n6_
       have BK231 := n7_
       have HB := n8_
       clear n0_ n1_ n2_ n3_ n4_ n5_ n6_ n7_ n8_
       refine start_ (n := 5) (S := fun w' => w'.cell? ⟨gb222, 0, none⟩ = some (.int .i64 t218) ∧ w'.cell? ⟨gb222, 1, none⟩ = some (.slice Ao36 t219.length co36) ∧ w'.cell? ⟨gb203, 0, none⟩ = some (.int .i64 a0_0) ∧ w'.cell? ⟨gb203, 1, none⟩ = some (.slice A0_1 l0_1.length c0_1)) (ds := []) #[false, false, false, false, false] (by kernel_rfl) rfl rfl ⟨(blk_cell BK222.out 0).trans rfl, (blk_cell BK222.out 1).trans rfl, (blk_cell BK203.out 0).trans rfl, (blk_cell BK203.out 1).trans rfl⟩ (fun hHeld => ?_)
       generalize wc.drew = w201 at HO_9 HO_218001 HO_223001 HO_232001 BK203 BK217 BK222 BK231 HB hHeld ⊢
       refine take_ (i := 0) (N := some 52) (v := ?_) (a' := ?_) #[true, false, false, false, false] rfl rfl (by kernel_rfl) (fun _ _ _ h => h) (Or.inl ⟨by rfl, ?_⟩) hHeld ?_ ?_
       rotate_left
       ·
        rintro w' ⟨s0, s1, s2, s3⟩
        go_simp
        with_reducible rfl
       rotate_left
       ·
        simp only [Act.put, List.setIfInBounds_toArray, List.set_cons_zero, List.set_cons_succ, i64_w, i32_w]
        rfl
       refine take_ (i := 1) (N := some 53) (v := ?_) (a' := ?_) #[true, true, false, false, false] rfl rfl (by kernel_rfl) (fun _ _ _ h => h) (Or.inl ⟨by rfl, ?_⟩) hHeld ?_ ?_
       rotate_left
       ·
        rintro w' ⟨s0, s1, s2, s3⟩
        go_simp
        with_reducible rfl
       rotate_left
       ·
        simp only [Act.put, List.setIfInBounds_toArray, List.set_cons_zero, List.set_cons_succ, i64_w, i32_w]
        rfl
       refine one_ (i := 2) (N := some 54) #[true, true, true, false, false] rfl rfl (by kernel_rfl) (by decide) (fun K hK => ?_)
       refine goes_ Try.func19 (by kernel_rfl) rfl #[.agg #[.int .i64 a0_0, .slice A0_1 l0_1.length c0_1]] (by rfl) rfl rfl (by (try simp only [List.map_toArray, List.map_cons, List.map_nil]); first | done | rfl | (simp only [List.length_drop, List.length_take]; rfl)) ?_
       with_reducible refine (laws_toNet.calls kj15 a0_0 _ _ l0_1 t233 t234 _ ?side1 ?side2 A66.out).mono ?_
       (case side1 => repeat (first | exact (Kd.C_below HR0_1.out HB.out) | (with_reducible refine Kd.C_alloc ?_ _) | (with_reducible refine Kd.C_drewN ?_ _) | (with_reducible refine Kd.C_drew ?_)))
       (case side2 => exact HC0_1.out)
       rintro e w202 ⟨v235, rfl, ho0, hb⟩
       refine ⟨_, rfl, ?_⟩
       have n0_ := Aside0.mk (Kd.R_below (by (with_reducible repeat (first | apply Kd.R_alloc | apply Kd.R_drewN | apply Kd.R_drew)); exact HO_9.out) hb)
       have n1_ := Aside0.mk (Kd.R_elder' (by (with_reducible repeat (first | apply Kd.R_alloc | apply Kd.R_drewN | apply Kd.R_drew)); exact HO_218001.out) (Kd.R_base ho0) hb)
       have n2_ := Aside0.mk (Kd.R_elder' (by (with_reducible repeat (first | apply Kd.R_alloc | apply Kd.R_drewN | apply Kd.R_drew)); exact HO_223001.out) (Kd.R_base ho0) hb)
       have n3_ := Aside0.mk (Kd.R_elder' (by (with_reducible repeat (first | apply Kd.R_alloc | apply Kd.R_drewN | apply Kd.R_drew)); exact HO_232001.out) (Kd.R_base ho0) hb)
       have n4_ := Aside0.mk (Kd.R_lower (Kd.R_new' (Kd.R_new' (Kd.R_new' ho0 (Kd.R_lt (by (with_reducible repeat (first | apply Kd.R_alloc | apply Kd.R_drewN | apply Kd.R_drew)); exact HO_218001.out))) (Kd.R_lt (by (with_reducible repeat (first | apply Kd.R_alloc | apply Kd.R_drewN | apply Kd.R_drew)); exact HO_223001.out))) (Kd.R_lt (by (with_reducible repeat (first | apply Kd.R_alloc | apply Kd.R_drewN | apply Kd.R_drew)); exact HO_232001.out))) (below_size (by repeat (first | (with_reducible first | exact HB.out | apply below_alloc | apply pw_below_drewN | apply below_drew1 | refine below_set ?_ GE203.out | refine below_set ?_ GE217.out | refine below_set ?_ GE222.out | refine below_set ?_ GE231.out) | exact HB.out))))
       have n5_ := Aside0.mk (blk_below (g := gb203) (o := .cells #[.int .i64 a0_0, .slice A0_1 l0_1.length c0_1] 37 (0, 0)) (by (with_reducible repeat (first | refine blk_drewN ?_ _ | refine blk_drew ?_ | refine blk_alloc ?_ _)); exact BK203.out) hb)
       have n6_ := Aside0.mk (blk_below (g := gb217) (o := .cells #[.int .i64 t212, .slice Ao29 t213.length co29] 26 (0, 0)) (by (with_reducible repeat (first | refine blk_drewN ?_ _ | refine blk_drew ?_ | refine blk_alloc ?_ _)); exact BK217.out) hb)
       have n7_ := Aside0.mk (blk_below (g := gb222) (o := .cells #[.int .i64 t218, .slice Ao36 t219.length co36] 26 (0, 0)) (by (with_reducible repeat (first | refine blk_drewN ?_ _ | refine blk_drew ?_ | refine blk_alloc ?_ _)); exact BK222.out) hb)
       have n8_ := Aside0.mk (blk_below (g := gb231) (o := .cells #[.int .i64 t226, .slice Ao46 t227.length co46] 26 (0, 0)) (by (with_reducible repeat (first | refine blk_drewN ?_ _ | refine blk_drew ?_ | refine blk_alloc ?_ _)); exact BK231.out) hb)
       have n9_ := Aside0.mk (below_step (by repeat (first | (with_reducible first | exact HB.out | apply below_alloc | apply pw_below_drewN | apply below_drew1 | refine below_set ?_ GE203.out | refine below_set ?_ GE217.out | refine below_set ?_ GE222.out | refine below_set ?_ GE231.out) | exact HB.out)) hb)
       clear HO_9
       clear HO_218001
       clear HO_223001
       clear HO_232001
       clear BK203
       clear BK217
       clear BK222
       clear BK231
       clear HB
       have HO_9 := n0_
       have HO_218001 := n1_
       have HO_223001 := n2_
       have HO_232001 := n3_
       have HO236 := n4_
       have BK203 := n5_
       have BK217 := n6_
       have BK222 := n7_
       have BK231 := n8_
       have HB := n9_
       clear n0_ n1_ n2_ n3_ n4_ n5_ n6_ n7_ n8_ n9_
       (try clear hb)
       (try clear hb2)
       (try clear hk)
       (try clear hi)
       (try clear ho0)
       obtain ⟨Ao203, co203, eo203⟩ := Kd.R_slice HO236.out
       (first | subst eo203 | (injection eo203 with f1_ f2_ f3_; have f4_ := f1_.symm; have f5_ := f3_.symm; clear f1_ f2_ f3_; subst f4_; subst f5_))
       refine hK.out _ _ ⟨(blk_cell BK222.out 0).trans rfl, (blk_cell BK222.out 1).trans rfl, (blk_cell BK203.out 0).trans rfl, (blk_cell BK203.out 1).trans rfl⟩ (fun hHeld => ?_)
       clear hK K
       refine norm_ (a' := ?_) ?_ ?_
       rotate_left
       ·
        show Act.put _ (some 54) _ = _
        simp only [Act.put, List.setIfInBounds_toArray, List.set_cons_zero, List.set_cons_succ, i64_w, i32_w]
        rfl
       refine one_ (i := 3) (N := some 55) #[true, true, true, true, false] rfl rfl (by kernel_rfl) (by decide) (fun K hK => ?_)
       refine goes_ Try.func21 (by kernel_rfl) rfl #[.agg #[.int .i64 t218, .slice Ao36 t219.length co36], .agg #[.int .i64 t233, .slice Ao203 t234.length co203]] (by rfl) rfl rfl (by (try simp only [List.map_toArray, List.map_cons, List.map_nil]); first | done | rfl | (simp only [List.length_drop, List.length_take]; rfl)) ?_
       with_reducible refine (laws_eqNet.calls kj15 t218 _ _ t219 t233 _ _ t234 false _ ?side1 ?side2 ?side3 ?side4 A67.out).mono ?_
       (case side1 => repeat (first | exact (Kd.R_reads' HO_223001.out).2.2 | (with_reducible refine Kd.C_alloc ?_ _) | (with_reducible refine Kd.C_drewN ?_ _) | (with_reducible refine Kd.C_drew ?_)))
       (case side2 => exact (Kd.R_reads' HO_223001.out).2.1)
       (case side3 => repeat (first | exact (Kd.R_reads' HO236.out).2.2 | (with_reducible refine Kd.C_alloc ?_ _) | (with_reducible refine Kd.C_drewN ?_ _) | (with_reducible refine Kd.C_drew ?_)))
       (case side4 => exact (Kd.R_reads' HO236.out).2.1)
       rintro e w204 ⟨rfl, hb⟩
       refine ⟨_, rfl, ?_⟩
       have n0_ := Aside0.mk (Kd.R_below (by (with_reducible repeat (first | apply Kd.R_alloc | apply Kd.R_drewN | apply Kd.R_drew)); exact HO_9.out) hb)
       have n1_ := Aside0.mk (Kd.R_below (by (with_reducible repeat (first | apply Kd.R_alloc | apply Kd.R_drewN | apply Kd.R_drew)); exact HO_218001.out) hb)
       have n2_ := Aside0.mk (Kd.R_below (by (with_reducible repeat (first | apply Kd.R_alloc | apply Kd.R_drewN | apply Kd.R_drew)); exact HO_223001.out) hb)
       have n3_ := Aside0.mk (Kd.R_below (by (with_reducible repeat (first | apply Kd.R_alloc | apply Kd.R_drewN | apply Kd.R_drew)); exact HO_232001.out) hb)
       have n4_ := Aside0.mk (Kd.R_below (by (with_reducible repeat (first | apply Kd.R_alloc | apply Kd.R_drewN | apply Kd.R_drew)); exact HO236.out) hb)
       have n5_ := Aside0.mk (blk_below (g := gb203) (o := .cells #[.int .i64 a0_0, .slice A0_1 l0_1.length c0_1] 37 (0, 0)) (by (with_reducible repeat (first | refine blk_drewN ?_ _ | refine blk_drew ?_ | refine blk_alloc ?_ _)); exact BK203.out) hb)
       have n6_ := Aside0.mk (blk_below (g := gb217) (o := .cells #[.int .i64 t212, .slice Ao29 t213.length co29] 26 (0, 0)) (by (with_reducible repeat (first | refine blk_drewN ?_ _ | refine blk_drew ?_ | refine blk_alloc ?_ _)); exact BK217.out) hb)
       have n7_ := Aside0.mk (blk_below (g := gb222) (o := .cells #[.int .i64 t218, .slice Ao36 t219.length co36] 26 (0, 0)) (by (with_reducible repeat (first | refine blk_drewN ?_ _ | refine blk_drew ?_ | refine blk_alloc ?_ _)); exact BK222.out) hb)
       have n8_ := Aside0.mk (blk_below (g := gb231) (o := .cells #[.int .i64 t226, .slice Ao46 t227.length co46] 26 (0, 0)) (by (with_reducible repeat (first | refine blk_drewN ?_ _ | refine blk_drew ?_ | refine blk_alloc ?_ _)); exact BK231.out) hb)
       have n9_ := Aside0.mk (below_step (by repeat (first | (with_reducible first | exact HB.out | apply below_alloc | apply pw_below_drewN | apply below_drew1 | refine below_set ?_ GE203.out | refine below_set ?_ GE217.out | refine below_set ?_ GE222.out | refine below_set ?_ GE231.out) | exact HB.out)) hb)
       clear HO_9
       clear HO_218001
       clear HO_223001
       clear HO_232001
       clear HO236
       clear BK203
       clear BK217
       clear BK222
       clear BK231
       clear HB
       have HO_9 := n0_
       have HO_218001 := n1_
       have HO_223001 := n2_
       have HO_232001 := n3_
       have HO236 := n4_
       have BK203 := n5_
       have BK217 := n6_
       have BK222 := n7_
       have BK231 := n8_
       have HB := n9_
       clear n0_ n1_ n2_ n3_ n4_ n5_ n6_ n7_ n8_ n9_
       (try clear hb)
       (try clear hb2)
       (try clear hk)
       (try clear hi)
       refine hK.out _ _ ⟨(blk_cell BK222.out 0).trans rfl, (blk_cell BK222.out 1).trans rfl, (blk_cell BK203.out 0).trans rfl, (blk_cell BK203.out 1).trans rfl⟩ (fun hHeld => ?_)
       clear hK K
       refine norm_ (a' := ?_) ?_ ?_
       rotate_left
       ·
        show Act.put _ (some 55) _ = _
        simp only [Act.put, List.setIfInBounds_toArray, List.set_cons_zero, List.set_cons_succ, i64_w, i32_w]
        rfl
       refine pure_ (i := 4) (N := some 56) (v := ?_) (a' := ?_) #[true, true, true, true, true] rfl rfl (by kernel_rfl) (fun _ _ _ h => h) (Or.inl ⟨by rfl, ?_⟩) ?_ ?_
       rotate_left
       ·
        intro w'
        go_simp
        with_reducible rfl
       rotate_left
       ·
        simp only [Act.put, List.setIfInBounds_toArray, List.set_cons_zero, List.set_cons_succ, i64_w, i32_w]
        rfl
       refine done_ (by kernel_rfl) ?_
       try go_wp2
       go_ret
       exact ⟨by first | rfl | (simp [errW_none, errW_some] <;> rfl) | (simp [*, errW_none, errW_some] <;> rfl), by repeat (first | (with_reducible first | exact HB.out | apply below_alloc | apply pw_below_drewN | apply below_drew1 | refine below_set ?_ GE203.out | refine below_set ?_ GE217.out | refine below_set ?_ GE222.out | refine below_set ?_ GE231.out) | exact HB.out)⟩

/-- THE ONE PURE STATEMENT of laws_FnExactCutting. -/
def laws_FnExactCutting.Pure : Prop := ∀ (a0_0 : Int) (l0_1 : List (S95)) (l1 : List Int), (Lit.int .i64 a0_0).wf = true → (l0_1.length ≤ maxLen ∧ ∀ y0_ ∈ l0_1, ((Lit.int .i64 y0_.f0).wf = true ∧ (Lit.int .i64 y0_.f1).wf = true ∧ (Lit.int .i64 y0_.f2).wf = true ∧ y0_.f3.size ≤ maxLen)) → (l1.length ≤ maxLen ∧ ∀ y0_ ∈ l1, (Lit.int .i64 y0_).wf = true) → ∃ k, laws_FnExactCutting.f k a0_0 l0_1 l1 = some true

end Go.Proofs.Ytcefbmcehmkpnaa.QFnExactCutting
