/- Written by wip/myprint.py of this repo (the kit's print, with additions of this session). -/
import Derived.Test.YthjpfkphfenbeaaQFnFramedx0
import Derived.Test.YthjpfkphfenbeaaQFnFramedx2
import Derived.Test.YthjpfkphfenbeaaQFnFramedx4
import Derived.Test.YthjpfkphfenbeaaQFnFramedx5
import Derived.Test.YthjpfkphfenbeaaQFnFramedx8
namespace Go.Proofs.Ythjpfkphfenbeaa.QFnFramed
open Go.RowKit Go.Proofs.YthjpfkphfenbeaaW.PrintWords Go.Proofs.YthjpfkphfenbeaaW.PrintLast Go.Proofs.YthjpfkphfenbeaaW.PrintMore
attribute [local go_sem] max2_int min2_int max_two min_two max_three min_three max_four min_four   -- for this text's walks alone
set_option linter.unusedVariables false
set_option linter.unusedSimpArgs false

/-! ### laws_FnFramed: function 3 -/
mutual
def laws_FnFramed.j0 : Nat → List Int → ByteArray → List (S31) → Int → Int → List (S31) → Int → Int → Bool → Option (Bool)
 | 0, _, _, _, _, _, _, _, _, _ => none
 | k + 1, x0, x3, x4, x5, x6, x7, x8, x9, x50 => if x50 = true then (if x8 = x5 then (if x9 = x6 then (some ((x7.length : Int) == (x4.length : Int))) else (some false)) else (some false)) else (laws_FnFramed.l0 k x0 x3 x7 x8 (⟨#[]⟩ : ByteArray) 0)
def laws_FnFramed.l0 : Nat → List Int → ByteArray → List (S31) → Int → ByteArray → Int → Option (Bool)
 | 0, _, _, _, _, _, _ => none
 | k + 1, x0, x3, x7, x8, x10, x11 => if x11 < (x7.length : Int) then (if 0 ≤ x11 then ((impl_WriteFrame.f k ((rd_T31 x7 x11).f0) ((rd_T31 x7 x11).f1)).bind fun t275 => (if x10.size + t275.size ≤ 9223372036854775807 then (laws_FnFramed.l0 k x0 x3 x7 x8 (x10 ++ t275) (wrap64 (x11 + 1))) else (none))) else (none)) else (if 0 ≤ x8 then (if x8 ≤ (x3.size : Int) then (if x10.toList = (x3.extract 0 (x8 : Int).toNat).toList then (if (wrap64 ((x3.size : Int) + 1)) = 0 then (none) else (if 0 ≤ ((x0.length : Int) % (wrap64 ((x3.size : Int) + 1))) then (if ((x0.length : Int) % (wrap64 ((x3.size : Int) + 1))) ≤ (x3.size : Int) then ((impl_ReadFrames.f k (x3.extract 0 (((x0.length : Int) % (wrap64 ((x3.size : Int) + 1))) : Int).toNat)).bind fun bt276 => (if (bt276.1.length : Int) ≤ (x7.length : Int) then (if 0 ≤ (bt276.1.length : Int) then ((laws_sameFrames.f k bt276.1 (x7.take ((bt276.1.length : Int) : Int).toNat)).bind fun t285 => (if t285 = true then (if bt276.2.1 ≤ ((x0.length : Int) % (wrap64 ((x3.size : Int) + 1))) then (some (decide (bt276.2.1 ≤ x8))) else (some false)) else (some false))) else (none)) else (some false))) else (none)) else (none))) else (some false)) else (none)) else (none))
end
def laws_FnFramed.f (k : Nat) (l0 : List Int) : Option (Bool) := (laws_big.f l0).bind fun t261 => (if t261 = true then (some true) else ((spec_DrawReadFrames.f k l0).bind fun t262 => ((spec_ReadFrames.f k t262).bind fun bt263 => ((impl_ReadFrames.f k t262).bind fun bt268 => (if bt268.2.1 = bt263.2.1 then (if bt268.2.2 = bt263.2.2 then ((laws_sameFrames.f k bt268.1 bt263.1).bind fun t273 => (if t273 = true then (laws_FnFramed.j0 k l0 t262 bt263.1 bt263.2.1 bt263.2.2 bt268.1 bt268.2.1 bt268.2.2 (decide ((t262.size : Int) > 2000))) else (laws_FnFramed.j0 k l0 t262 bt263.1 bt263.2.1 bt263.2.2 bt268.1 bt268.2.1 bt268.2.2 true))) else (laws_FnFramed.j0 k l0 t262 bt263.1 bt263.2.1 bt263.2.2 bt268.1 bt268.2.1 bt268.2.2 true)) else (laws_FnFramed.j0 k l0 t262 bt263.1 bt263.2.1 bt263.2.2 bt268.1 bt268.2.1 bt268.2.2 true))))))
theorem laws_FnFramed.mono_l : ∀ k, (∀ y0 y1 y2 y3 y4 y5 y6 y7 y8, LeO (laws_FnFramed.j0 k y0 y1 y2 y3 y4 y5 y6 y7 y8) (laws_FnFramed.j0 (k + 1) y0 y1 y2 y3 y4 y5 y6 y7 y8)) ∧ (∀ y0 y1 y2 y3 y4 y5, LeO (laws_FnFramed.l0 k y0 y1 y2 y3 y4 y5) (laws_FnFramed.l0 (k + 1) y0 y1 y2 y3 y4 y5))
 | 0 => ⟨fun _ _ _ _ _ _ _ _ _ r h => by simp [laws_FnFramed.j0] at h, fun _ _ _ _ _ _ r h => by simp [laws_FnFramed.l0] at h⟩
 | k + 1 => by
  obtain ⟨ih0, ih1⟩ := laws_FnFramed.mono_l k
  refine ⟨?_, ?_⟩
  ·
   intro y0 y1 y2 y3 y4 y5 y6 y7 y8
   unfold laws_FnFramed.j0
   repeat' first
   | (with_reducible exact ih0 _ _ _ _ _ _ _ _ _)
   | (with_reducible exact ih1 _ _ _ _ _ _)
   | (with_reducible exact impl_ReadFrames.mono _ _)
   | (with_reducible exact impl_WriteFrame.mono _ _ _)
   | (with_reducible exact laws_sameFrames.mono _ _ _)
   | (with_reducible exact spec_DrawReadFrames.mono _ _)
   | (with_reducible exact spec_ReadFrames.mono _ _)
   | (with_reducible exact LeO.refl _)
   | (with_reducible exact LeO.none _)
   | (with_reducible refine LeO.ite ?_ ?_)
   | (with_reducible refine LeO.bind ?_ (fun _ => ?_))
   | exact ih0 _ _ _ _ _ _ _ _ _
   | exact ih1 _ _ _ _ _ _
   | exact impl_ReadFrames.mono _ _
   | exact impl_WriteFrame.mono _ _ _
   | exact laws_sameFrames.mono _ _ _
   | exact spec_DrawReadFrames.mono _ _
   | exact spec_ReadFrames.mono _ _
   | exact LeO.none _
   | refine LeO.ite ?_ ?_
   | refine LeO.bind ?_ (fun _ => ?_)
  ·
   intro y0 y1 y2 y3 y4 y5
   unfold laws_FnFramed.l0
   repeat' first
   | (with_reducible exact ih0 _ _ _ _ _ _ _ _ _)
   | (with_reducible exact ih1 _ _ _ _ _ _)
   | (with_reducible exact impl_ReadFrames.mono _ _)
   | (with_reducible exact impl_WriteFrame.mono _ _ _)
   | (with_reducible exact laws_sameFrames.mono _ _ _)
   | (with_reducible exact spec_DrawReadFrames.mono _ _)
   | (with_reducible exact spec_ReadFrames.mono _ _)
   | (with_reducible exact LeO.refl _)
   | (with_reducible exact LeO.none _)
   | (with_reducible refine LeO.ite ?_ ?_)
   | (with_reducible refine LeO.bind ?_ (fun _ => ?_))
   | exact ih0 _ _ _ _ _ _ _ _ _
   | exact ih1 _ _ _ _ _ _
   | exact impl_ReadFrames.mono _ _
   | exact impl_WriteFrame.mono _ _ _
   | exact laws_sameFrames.mono _ _ _
   | exact spec_DrawReadFrames.mono _ _
   | exact spec_ReadFrames.mono _ _
   | exact LeO.none _
   | refine LeO.ite ?_ ?_
   | refine LeO.bind ?_ (fun _ => ?_)
theorem laws_FnFramed.mono : ∀ a0 k, LeO (laws_FnFramed.f k a0) (laws_FnFramed.f (k + 1) a0) := by
 intro a0 k
 obtain ⟨ih0, ih1⟩ := laws_FnFramed.mono_l k
 unfold laws_FnFramed.f
 repeat' first
   | (with_reducible exact ih0 _ _ _ _ _ _ _ _ _)
   | (with_reducible exact ih1 _ _ _ _ _ _)
   | (with_reducible exact impl_ReadFrames.mono _ _)
   | (with_reducible exact impl_WriteFrame.mono _ _ _)
   | (with_reducible exact laws_sameFrames.mono _ _ _)
   | (with_reducible exact spec_DrawReadFrames.mono _ _)
   | (with_reducible exact spec_ReadFrames.mono _ _)
   | (with_reducible exact LeO.refl _)
   | (with_reducible exact LeO.none _)
   | (with_reducible refine LeO.ite ?_ ?_)
   | (with_reducible refine LeO.bind ?_ (fun _ => ?_))
   | exact ih0 _ _ _ _ _ _ _ _ _
   | exact ih1 _ _ _ _ _ _
   | exact impl_ReadFrames.mono _ _
   | exact impl_WriteFrame.mono _ _ _
   | exact laws_sameFrames.mono _ _ _
   | exact spec_DrawReadFrames.mono _ _
   | exact spec_ReadFrames.mono _ _
   | exact LeO.none _
   | refine LeO.ite ?_ ?_
   | refine LeO.bind ?_ (fun _ => ?_)
set_option maxHeartbeats 8000000 in
set_option maxRecDepth 100000 in
theorem laws_FnFramed.calls (k : Nat) (A0 : Option Addr) (c0 : Nat) (l0 : List Int) (r : Bool) (w : World) (hr0 : Kd.C (Kd.int .u8) w A0 l0.length l0) (hc0 : l0.length ≤ c0) (h : laws_FnFramed.f k l0 = some r) :
  Calls Try.prog 3 #[.slice A0 l0.length c0] w fun e w' => e = .returned (.bool r) ∧ Below w.heap.size w w' := by
 have hu31 := Try.underlying31
 have HR0 := Aside0.mk hr0
 have HC0 := Aside0.mk hc0
 clear hr0 hc0
 have HB := Aside0.mk (Below.refl w.heap.size w)
 have H : ((laws_big.f l0).bind fun t261 => (if t261 = true then (some true) else ((spec_DrawReadFrames.f k l0).bind fun t262 => ((spec_ReadFrames.f k t262).bind fun bt263 => ((impl_ReadFrames.f k t262).bind fun bt268 => (if bt268.2.1 = bt263.2.1 then (if bt268.2.2 = bt263.2.2 then ((laws_sameFrames.f k bt268.1 bt263.1).bind fun t273 => (if t273 = true then (laws_FnFramed.j0 k l0 t262 bt263.1 bt263.2.1 bt263.2.2 bt268.1 bt268.2.1 bt268.2.2 (decide ((t262.size : Int) > 2000))) else (laws_FnFramed.j0 k l0 t262 bt263.1 bt263.2.1 bt263.2.2 bt268.1 bt268.2.1 bt268.2.2 true))) else (laws_FnFramed.j0 k l0 t262 bt263.1 bt263.2.1 bt263.2.2 bt268.1 bt268.2.1 bt268.2.2 true)) else (laws_FnFramed.j0 k l0 t262 bt263.1 bt263.2.1 bt263.2.2 bt268.1 bt268.2.1 bt268.2.2 true))))))) = some r := h
 clear h
 replace H := Option.bind_eq_some_iff.mp H
 obtain ⟨t261, A20, H⟩ := H
 replace H : (if t261 = true then (some true) else ((spec_DrawReadFrames.f k l0).bind fun t262 => ((spec_ReadFrames.f k t262).bind fun bt263 => ((impl_ReadFrames.f k t262).bind fun bt268 => (if bt268.2.1 = bt263.2.1 then (if bt268.2.2 = bt263.2.2 then ((laws_sameFrames.f k bt268.1 bt263.1).bind fun t273 => (if t273 = true then (laws_FnFramed.j0 k l0 t262 bt263.1 bt263.2.1 bt263.2.2 bt268.1 bt268.2.1 bt268.2.2 (decide ((t262.size : Int) > 2000))) else (laws_FnFramed.j0 k l0 t262 bt263.1 bt263.2.1 bt263.2.2 bt268.1 bt268.2.1 bt268.2.2 true))) else (laws_FnFramed.j0 k l0 t262 bt263.1 bt263.2.1 bt263.2.2 bt268.1 bt268.2.1 bt268.2.2 true)) else (laws_FnFramed.j0 k l0 t262 bt263.1 bt263.2.1 bt263.2.2 bt268.1 bt268.2.1 bt268.2.2 true)))))) = some r := H
 have A2 := Aside0.mk A20
 clear A20
 by_cases c3 : t261 = true
 ·
  subst c3
  have H1 : (some true) = some r := by rw [if_pos rfl] at H; exact H
  clear H
  have H := H1
  clear H1
  obtain rfl := Option.some.inj H
  go_enter Try.func3, Try.ntmps3
  go_wp2_with (first | ((with_reducible refine gate_callee (f := 11) rfl ?_); refine goesL_ (some 17) rfl rfl Try.func11 (by kernel_rfl) rfl #[.slice A0 l0.length c0] rfl (by (try simp only [List.map_toArray, List.map_cons, List.map_nil]); first | done | rfl | (simp only [List.length_drop, List.length_take]; rfl)) ?_; (with_reducible refine (laws_big.calls _ _ l0 true _ ?side1 ?side2 A2.out).mono ?_); (case side1 => repeat (first | exact HR0.out | (with_reducible refine Kd.C_alloc ?_ _) | (with_reducible refine Kd.C_drewN ?_ _) | (with_reducible refine Kd.C_drew ?_))); (case side2 => exact HC0.out); rintro e w' ⟨rfl, ⟨nd, rfl⟩⟩; refine ⟨_, rfl, ?_⟩))
  go_ret
  exact ⟨by first | rfl | (simp [errW_none, errW_some] <;> rfl) | (simp [*, errW_none, errW_some] <;> rfl), by repeat (first | (with_reducible first | exact HB.out | apply below_alloc | apply pw_below_drewN | apply below_drew1) | exact HB.out)⟩
 ·
  replace c3 := Bool.eq_false_iff.mpr c3
  subst c3
  have H1 : ((spec_DrawReadFrames.f k l0).bind fun t262 => ((spec_ReadFrames.f k t262).bind fun bt263 => ((impl_ReadFrames.f k t262).bind fun bt268 => (if bt268.2.1 = bt263.2.1 then (if bt268.2.2 = bt263.2.2 then ((laws_sameFrames.f k bt268.1 bt263.1).bind fun t273 => (if t273 = true then (laws_FnFramed.j0 k l0 t262 bt263.1 bt263.2.1 bt263.2.2 bt268.1 bt268.2.1 bt268.2.2 (decide ((t262.size : Int) > 2000))) else (laws_FnFramed.j0 k l0 t262 bt263.1 bt263.2.1 bt263.2.2 bt268.1 bt268.2.1 bt268.2.2 true))) else (laws_FnFramed.j0 k l0 t262 bt263.1 bt263.2.1 bt263.2.2 bt268.1 bt268.2.1 bt268.2.2 true)) else (laws_FnFramed.j0 k l0 t262 bt263.1 bt263.2.1 bt263.2.2 bt268.1 bt268.2.1 bt268.2.2 true))))) = some r := by rw [if_neg (show ¬ (false = true) by decide)] at H; exact H
  clear H
  have H := H1
  clear H1
  replace H := Option.bind_eq_some_iff.mp H
  obtain ⟨t262, A40, H⟩ := H
  replace H : ((spec_ReadFrames.f k t262).bind fun bt263 => ((impl_ReadFrames.f k t262).bind fun bt268 => (if bt268.2.1 = bt263.2.1 then (if bt268.2.2 = bt263.2.2 then ((laws_sameFrames.f k bt268.1 bt263.1).bind fun t273 => (if t273 = true then (laws_FnFramed.j0 k l0 t262 bt263.1 bt263.2.1 bt263.2.2 bt268.1 bt268.2.1 bt268.2.2 (decide ((t262.size : Int) > 2000))) else (laws_FnFramed.j0 k l0 t262 bt263.1 bt263.2.1 bt263.2.2 bt268.1 bt268.2.1 bt268.2.2 true))) else (laws_FnFramed.j0 k l0 t262 bt263.1 bt263.2.1 bt263.2.2 bt268.1 bt268.2.1 bt268.2.2 true)) else (laws_FnFramed.j0 k l0 t262 bt263.1 bt263.2.1 bt263.2.2 bt268.1 bt268.2.1 bt268.2.2 true)))) = some r := H
  have A4 := Aside0.mk A40
  clear A40
  replace H := Option.bind_eq_some_iff.mp H
  obtain ⟨⟨t263, t264, t265⟩, A50, H⟩ := H
  replace H : ((impl_ReadFrames.f k t262).bind fun bt268 => (if bt268.2.1 = t264 then (if bt268.2.2 = t265 then ((laws_sameFrames.f k bt268.1 t263).bind fun t273 => (if t273 = true then (laws_FnFramed.j0 k l0 t262 t263 t264 t265 bt268.1 bt268.2.1 bt268.2.2 (decide ((t262.size : Int) > 2000))) else (laws_FnFramed.j0 k l0 t262 t263 t264 t265 bt268.1 bt268.2.1 bt268.2.2 true))) else (laws_FnFramed.j0 k l0 t262 t263 t264 t265 bt268.1 bt268.2.1 bt268.2.2 true)) else (laws_FnFramed.j0 k l0 t262 t263 t264 t265 bt268.1 bt268.2.1 bt268.2.2 true))) = some r := H
  have A5 := Aside0.mk A50
  clear A50
  replace H := Option.bind_eq_some_iff.mp H
  obtain ⟨⟨t268, t269, t270⟩, A60, H⟩ := H
  replace H : (if t269 = t264 then (if t270 = t265 then ((laws_sameFrames.f k t268 t263).bind fun t273 => (if t273 = true then (laws_FnFramed.j0 k l0 t262 t263 t264 t265 t268 t269 t270 (decide ((t262.size : Int) > 2000))) else (laws_FnFramed.j0 k l0 t262 t263 t264 t265 t268 t269 t270 true))) else (laws_FnFramed.j0 k l0 t262 t263 t264 t265 t268 t269 t270 true)) else (laws_FnFramed.j0 k l0 t262 t263 t264 t265 t268 t269 t270 true)) = some r := H
  have A6 := Aside0.mk A60
  clear A60
  have HC7 := Aside0.mk H
  clear H
  go_enter Try.func3, Try.ntmps3
  go_upto_region 6 with (first | ((with_reducible refine gate_callee (f := 11) rfl ?_); refine goesL_ (some 17) rfl rfl Try.func11 (by kernel_rfl) rfl #[.slice A0 l0.length c0] rfl (by (try simp only [List.map_toArray, List.map_cons, List.map_nil]); first | done | rfl | (simp only [List.length_drop, List.length_take]; rfl)) ?_; (with_reducible refine (laws_big.calls _ _ l0 false _ ?side1 ?side2 A2.out).mono ?_); (case side1 => repeat (first | exact HR0.out | (with_reducible refine Kd.C_alloc ?_ _) | (with_reducible refine Kd.C_drewN ?_ _) | (with_reducible refine Kd.C_drew ?_))); (case side2 => exact HC0.out); rintro e w' ⟨rfl, ⟨nd, rfl⟩⟩; refine ⟨_, rfl, ?_⟩) | ((with_reducible refine gate_callee (f := 12) rfl ?_); refine goesL_ (some 19) rfl rfl Try.func12 (by kernel_rfl) rfl #[.slice A0 l0.length c0] rfl (by (try simp only [List.map_toArray, List.map_cons, List.map_nil]); first | done | rfl | (simp only [List.length_drop, List.length_take]; rfl)) ?_; (with_reducible refine (spec_DrawReadFrames.calls k _ _ l0 t262 _ ?side1 ?side2 A4.out).mono ?_); (case side1 => repeat (first | exact HR0.out | (with_reducible refine Kd.C_alloc ?_ _) | (with_reducible refine Kd.C_drewN ?_ _) | (with_reducible refine Kd.C_drew ?_))); (case side2 => exact HC0.out); rintro e w8 ⟨rfl, hb⟩; refine ⟨_, rfl, ?_⟩; have n0_ := Aside0.mk (below_step (by repeat (first | (with_reducible first | exact HB.out | apply below_alloc | apply pw_below_drewN | apply below_drew1) | exact HB.out)) hb); clear HB; have HB := n0_; clear n0_; (try clear hb); (try clear hb2); (try clear hk); (try clear hi)) | ((with_reducible refine gate_callee (f := 13) rfl ?_); refine goesL_ (some 22) rfl rfl Try.func13 (by kernel_rfl) rfl #[.string t262] rfl (by (try simp only [List.map_toArray, List.map_cons, List.map_nil]); first | done | rfl | (simp only [List.length_drop, List.length_take]; rfl)) ?_; (with_reducible refine (spec_ReadFrames.calls k t262 t263 t264 t265 _ A5.out).mono ?_); rintro e w9 ⟨v266, rfl, ho0, hb⟩; refine ⟨_, rfl, ?_⟩; have n0_ := Aside0.mk (Kd.R_lower ho0 (below_size (by repeat (first | (with_reducible first | exact HB.out | apply below_alloc | apply pw_below_drewN | apply below_drew1) | exact HB.out)))); have n1_ := Aside0.mk (below_step (by repeat (first | (with_reducible first | exact HB.out | apply below_alloc | apply pw_below_drewN | apply below_drew1) | exact HB.out)) hb); clear HB; have HO267 := n0_; have HB := n1_; clear n0_ n1_; (try clear hb); (try clear hb2); (try clear hk); (try clear hi); (try clear ho0)) | ((with_reducible refine gate_callee (f := 14) rfl ?_); refine goesL_ (some 28) rfl rfl Try.func14 (by kernel_rfl) rfl #[.string t262] rfl (by (try simp only [List.map_toArray, List.map_cons, List.map_nil]); first | done | rfl | (simp only [List.length_drop, List.length_take]; rfl)) ?_; (with_reducible refine (impl_ReadFrames.calls k t262 t268 t269 t270 _ A6.out).mono ?_); rintro e w10 ⟨v271, rfl, ho0, hb⟩; refine ⟨_, rfl, ?_⟩; have n0_ := Aside0.mk (Kd.R_elder' (by (with_reducible repeat (first | apply Kd.R_alloc | apply Kd.R_drewN | apply Kd.R_drew)); exact HO267.out) (Kd.R_base ho0) hb); have n1_ := Aside0.mk (Kd.R_lower (Kd.R_new' ho0 (Kd.R_lt (by (with_reducible repeat (first | apply Kd.R_alloc | apply Kd.R_drewN | apply Kd.R_drew)); exact HO267.out))) (below_size (by repeat (first | (with_reducible first | exact HB.out | apply below_alloc | apply pw_below_drewN | apply below_drew1) | exact HB.out)))); have n2_ := Aside0.mk (below_step (by repeat (first | (with_reducible first | exact HB.out | apply below_alloc | apply pw_below_drewN | apply below_drew1) | exact HB.out)) hb); clear HO267; clear HB; have HO267 := n0_; have HO272 := n1_; have HB := n2_; clear n0_ n1_ n2_; (try clear hb); (try clear hb2); (try clear hk); (try clear hi); (try clear ho0)))
  (try simp only [Act.put, List.setIfInBounds_toArray, List.set_cons_zero, List.set_cons_succ])
  go_cut [50] (fun v50 wc => ∃ (kq : Nat) (x50_6 : Bool), v50 = .bool x50_6 ∧ Aside0 (laws_FnFramed.j0 kq l0 t262 t263 t264 t265 t268 t269 t270 x50_6 = some r) ∧ Aside0 (kq ≤ k) ∧ Aside0 (Kd.R k31 31 wc w.heap.size (fun k_ => some k_ ≠ (v271 : Value).ownBlock) v266 t263) ∧ Aside0 (Kd.R k31 31 wc w.heap.size (fun k_ => some k_ ≠ (v266 : Value).ownBlock) v271 t268) ∧ Aside0 (Below w.heap.size w wc))
  case first =>
   have H := HC7.out
   clear HC7
   by_cases c11 : t269 = t264
   ·
    rw [if_pos c11] at H
    have c11b0 : (t269 == t264) = true := beq_iff_eq.mpr c11
    have c11b1 : (t269 != t264) = false := bne_eq_false_iff_eq.mpr c11
    clear c11
    (first | rw [c11b0] | (simp only [i64_w, i32_w]; rw [c11b0]) | skip)
    by_cases c12 : t270 = t265
    ·
     rw [if_pos c12] at H
     have c12b0 : (t270 == t265) = true := beq_iff_eq.mpr c12
     have c12b1 : (t270 != t265) = false := bne_eq_false_iff_eq.mpr c12
     clear c12
     replace H := Option.bind_eq_some_iff.mp H
     obtain ⟨t273, A130, H⟩ := H
     replace H : (if t273 = true then (laws_FnFramed.j0 k l0 t262 t263 t264 t265 t268 t269 t270 (decide ((t262.size : Int) > 2000))) else (laws_FnFramed.j0 k l0 t262 t263 t264 t265 t268 t269 t270 true)) = some r := H
     have A13 := Aside0.mk A130
     clear A130
     by_cases c14 : t273 = true
     ·
      subst c14
      have H1 : (laws_FnFramed.j0 k l0 t262 t263 t264 t265 t268 t269 t270 (decide ((t262.size : Int) > 2000))) = some r := by rw [if_pos rfl] at H; exact H
      clear H
      have H := H1
      clear H1
      have H' := Aside0.mk H
      clear H
      obtain ⟨Ao15, co15, eo15⟩ := Kd.R_slice HO272.out
      subst eo15
      obtain ⟨Ao16, co16, eo16⟩ := Kd.R_slice HO267.out
      subst eo16
      go_wp2_with (first | (go_at_call 15; (with_reducible refine (laws_sameFrames.calls k _ _ t268 _ _ t263 true _ ?side1 ?side2 ?side3 ?side4 A13.out).mono ?_); (case side1 => repeat (first | exact (Kd.R_reads' HO272.out).2.2 | (with_reducible refine Kd.C_alloc ?_ _) | (with_reducible refine Kd.C_drewN ?_ _) | (with_reducible refine Kd.C_drew ?_))); (case side2 => exact (Kd.R_reads' HO272.out).2.1); (case side3 => repeat (first | exact (Kd.R_reads' HO267.out).2.2 | (with_reducible refine Kd.C_alloc ?_ _) | (with_reducible refine Kd.C_drewN ?_ _) | (with_reducible refine Kd.C_drew ?_))); (case side4 => exact (Kd.R_reads' HO267.out).2.1); rintro e w' ⟨rfl, ⟨nd, rfl⟩⟩))
      go_meet
      case rel => exact ⟨_, (decide ((t262.size : Int) > 2000)), (by first | rfl | (simp; done) | (simp [*]; done)), H', ⟨by first | omega | exact Nat.le_refl _⟩, ⟨by (with_reducible repeat (first | apply Kd.R_alloc | apply Kd.R_drewN | apply Kd.R_drew)); exact Kd.R_mono HO267.out (fun _ hk => hk.2)⟩, ⟨by (with_reducible repeat (first | apply Kd.R_alloc | apply Kd.R_drewN | apply Kd.R_drew)); exact Kd.R_mono HO272.out (fun _ hk => hk.2)⟩, ⟨by repeat (first | (with_reducible first | exact HB.out | apply below_alloc | apply pw_below_drewN | apply below_drew1) | exact HB.out)⟩⟩
     ·
      replace c14 := Bool.eq_false_iff.mpr c14
      subst c14
      have H1 : (laws_FnFramed.j0 k l0 t262 t263 t264 t265 t268 t269 t270 true) = some r := by rw [if_neg (show ¬ (false = true) by decide)] at H; exact H
      clear H
      have H := H1
      clear H1
      have H' := Aside0.mk H
      clear H
      obtain ⟨Ao17, co17, eo17⟩ := Kd.R_slice HO272.out
      subst eo17
      obtain ⟨Ao18, co18, eo18⟩ := Kd.R_slice HO267.out
      subst eo18
      go_wp2_with (first | (go_at_call 15; (with_reducible refine (laws_sameFrames.calls k _ _ t268 _ _ t263 false _ ?side1 ?side2 ?side3 ?side4 A13.out).mono ?_); (case side1 => repeat (first | exact (Kd.R_reads' HO272.out).2.2 | (with_reducible refine Kd.C_alloc ?_ _) | (with_reducible refine Kd.C_drewN ?_ _) | (with_reducible refine Kd.C_drew ?_))); (case side2 => exact (Kd.R_reads' HO272.out).2.1); (case side3 => repeat (first | exact (Kd.R_reads' HO267.out).2.2 | (with_reducible refine Kd.C_alloc ?_ _) | (with_reducible refine Kd.C_drewN ?_ _) | (with_reducible refine Kd.C_drew ?_))); (case side4 => exact (Kd.R_reads' HO267.out).2.1); rintro e w' ⟨rfl, ⟨nd, rfl⟩⟩))
      go_meet
      case rel => exact ⟨_, (true), (by first | rfl | (simp; done) | (simp [*]; done)), H', ⟨by first | omega | exact Nat.le_refl _⟩, ⟨by (with_reducible repeat (first | apply Kd.R_alloc | apply Kd.R_drewN | apply Kd.R_drew)); exact Kd.R_mono HO267.out (fun _ hk => hk.2)⟩, ⟨by (with_reducible repeat (first | apply Kd.R_alloc | apply Kd.R_drewN | apply Kd.R_drew)); exact Kd.R_mono HO272.out (fun _ hk => hk.2)⟩, ⟨by repeat (first | (with_reducible first | exact HB.out | apply below_alloc | apply pw_below_drewN | apply below_drew1) | exact HB.out)⟩⟩
    ·
     rw [if_neg c12] at H
     have c12b0 : (t270 == t265) = false := beq_eq_false_iff_ne.mpr c12
     have c12b1 : (t270 != t265) = true := bne_iff_ne.mpr c12
     have H' := Aside0.mk H
     clear H
     go_wp2
     go_meet
     case rel => exact ⟨_, (true), (by first | rfl | (simp; done) | (simp [*]; done)), H', ⟨by first | omega | exact Nat.le_refl _⟩, ⟨by (with_reducible repeat (first | apply Kd.R_alloc | apply Kd.R_drewN | apply Kd.R_drew)); exact Kd.R_mono HO267.out (fun _ hk => hk.2)⟩, ⟨by (with_reducible repeat (first | apply Kd.R_alloc | apply Kd.R_drewN | apply Kd.R_drew)); exact Kd.R_mono HO272.out (fun _ hk => hk.2)⟩, ⟨by repeat (first | (with_reducible first | exact HB.out | apply below_alloc | apply pw_below_drewN | apply below_drew1) | exact HB.out)⟩⟩
   ·
    rw [if_neg c11] at H
    have c11b0 : (t269 == t264) = false := beq_eq_false_iff_ne.mpr c11
    have c11b1 : (t269 != t264) = true := bne_iff_ne.mpr c11
    (first | rw [c11b0] | (simp only [i64_w, i32_w]; rw [c11b0]) | skip)
    have H' := Aside0.mk H
    clear H
    go_wp2
    go_meet
    case rel => exact ⟨_, (true), (by first | rfl | (simp; done) | (simp [*]; done)), H', ⟨by first | omega | exact Nat.le_refl _⟩, ⟨by (with_reducible repeat (first | apply Kd.R_alloc | apply Kd.R_drewN | apply Kd.R_drew)); exact Kd.R_mono HO267.out (fun _ hk => hk.2)⟩, ⟨by (with_reducible repeat (first | apply Kd.R_alloc | apply Kd.R_drewN | apply Kd.R_drew)); exact Kd.R_mono HO272.out (fun _ hk => hk.2)⟩, ⟨by repeat (first | (with_reducible first | exact HB.out | apply below_alloc | apply pw_below_drewN | apply below_drew1) | exact HB.out)⟩⟩
  case rest =>
   clear HC7
   try clear c1
   try clear p2
   try clear c3
   try clear c11
   try clear c11b0
   try clear c11b1
   try clear c12
   try clear c12b0
   try clear c12b1
   try clear c13
   try clear c14
   obtain ⟨kq, x50_6, rfl, HA, HJ6, HO_4, HO_7, HB⟩ := hcut
   cases kq with
   | zero => exact absurd HA.out (by simp [laws_FnFramed.j0])
   | succ kj6 =>
    have H := HA.out
    clear HA
    simp only [laws_FnFramed.j0] at H
    by_cases c19 : x50_6 = true
    ·
     subst c19
     have H1 : (if t269 = t264 then (if t270 = t265 then (some ((t268.length : Int) == (t263.length : Int))) else (some false)) else (some false)) = some r := by rw [if_pos rfl] at H; exact H
     clear H
     have H := H1
     clear H1
     by_cases c20 : t269 = t264
     ·
      rw [if_pos c20] at H
      have c20b0 : (t269 == t264) = true := beq_iff_eq.mpr c20
      have c20b1 : (t269 != t264) = false := bne_eq_false_iff_eq.mpr c20
      clear c20
      by_cases c21 : t270 = t265
      ·
       rw [if_pos c21] at H
       have c21b0 : (t270 == t265) = true := beq_iff_eq.mpr c21
       have c21b1 : (t270 != t265) = false := bne_eq_false_iff_eq.mpr c21
       clear c21
       obtain rfl := Option.some.inj H
       obtain ⟨Ao22, co22, eo22⟩ := Kd.R_slice HO_7.out
       subst eo22
       obtain ⟨Ao23, co23, eo23⟩ := Kd.R_slice HO_4.out
       subst eo23
       go_wp2
       go_ret
       exact ⟨by first | rfl | (simp [errW_none, errW_some] <;> rfl) | (simp [*, errW_none, errW_some] <;> rfl), by repeat (first | (with_reducible first | exact HB.out | apply below_alloc | apply pw_below_drewN | apply below_drew1) | exact HB.out)⟩
      ·
       rw [if_neg c21] at H
       have c21b0 : (t270 == t265) = false := beq_eq_false_iff_ne.mpr c21
       have c21b1 : (t270 != t265) = true := bne_iff_ne.mpr c21
       obtain rfl := Option.some.inj H
       go_wp2
       go_ret
       exact ⟨by first | rfl | (simp [errW_none, errW_some] <;> rfl) | (simp [*, errW_none, errW_some] <;> rfl), by repeat (first | (with_reducible first | exact HB.out | apply below_alloc | apply pw_below_drewN | apply below_drew1) | exact HB.out)⟩
     ·
      rw [if_neg c20] at H
      have c20b0 : (t269 == t264) = false := beq_eq_false_iff_ne.mpr c20
      have c20b1 : (t269 != t264) = true := bne_iff_ne.mpr c20
      obtain rfl := Option.some.inj H
      go_wp2
      go_ret
      exact ⟨by first | rfl | (simp [errW_none, errW_some] <;> rfl) | (simp [*, errW_none, errW_some] <;> rfl), by repeat (first | (with_reducible first | exact HB.out | apply below_alloc | apply pw_below_drewN | apply below_drew1) | exact HB.out)⟩
    ·
     replace c19 := Bool.eq_false_iff.mpr c19
     subst c19
     have H1 : (laws_FnFramed.l0 kj6 l0 t262 t268 t269 (⟨#[]⟩ : ByteArray) 0) = some r := by rw [if_neg (show ¬ (false = true) by decide)] at H; exact H
     clear H
     have H := H1
     clear H1
     have H' := Aside0.mk H
     clear H
     go_wp2
     go_loopg [10, 11] kj6 (fun kq v10 v11 w' => ∃ (x10_2 : ByteArray) (x11_2 : Int), v10 = .string x10_2 ∧ v11 = .int .i64 x11_2 ∧ Aside0 (laws_FnFramed.l0 kq l0 t262 t268 t269 x10_2 x11_2 = some r) ∧ Aside0 (kq ≤ kj6) ∧ Aside0 (Kd.R k31 31 w' w.heap.size (fun _ => True) v271 t268) ∧ Aside0 (Below w.heap.size w w'))
     case atStart => exact ⟨((⟨#[]⟩ : ByteArray)), (0), (by first | rfl | (simp; done) | (simp [*]; done)), (by first | rfl | (simp; done) | (simp [*]; done)), H', ⟨Nat.le_refl _⟩, ⟨by (with_reducible repeat (first | apply Kd.R_alloc | apply Kd.R_drewN | apply Kd.R_drew)); exact Kd.R_mono HO_7.out (fun _ hk => trivial)⟩, ⟨by repeat (first | (with_reducible first | exact HB.out | apply below_alloc | apply pw_below_drewN | apply below_drew1) | exact HB.out)⟩⟩
     case round =>
      clear H'
      try clear c1
      try clear c2
      try clear p2
      try clear c3
      try clear c11
      try clear c11b0
      try clear c11b1
      try clear c12
      try clear c12b0
      try clear c12b1
      try clear c13
      try clear c14
      try clear c19
      try clear c20
      try clear c20b0
      try clear c20b1
      try clear c21
      try clear c21b0
      try clear c21b1
      try clear p2
      obtain ⟨x10_2, x11_2, rfl, rfl, HA, HK2, HO_7, HB⟩ := hrel
      cases gk with
      | zero => exact absurd HA.out (by simp [laws_FnFramed.l0])
      | succ k2 =>
       have H := HA.out
       clear HA
       simp only [laws_FnFramed.l0] at H
       by_cases c24 : x11_2 < (t268.length : Int)
       ·
        rw [if_pos c24] at H
        have c24b0 : decide (x11_2 < (t268.length : Int)) = true := decide_eq_true c24
        clear c24
        by_cases c25 : 0 ≤ x11_2
        ·
         rw [if_pos c25] at H
         have c25b0 : decide (0 ≤ x11_2) = true := decide_eq_true c25
         clear c25
         replace H := Option.bind_eq_some_iff.mp H
         obtain ⟨t275, A260, H⟩ := H
         replace H : (if x10_2.size + t275.size ≤ 9223372036854775807 then (laws_FnFramed.l0 k2 l0 t262 t268 t269 (x10_2 ++ t275) (wrap64 (x11_2 + 1))) else (none)) = some r := H
         have A26 := Aside0.mk A260
         clear A260
         by_cases c27 : x10_2.size + t275.size ≤ 9223372036854775807
         ·
          rw [if_pos c27] at H
          have c27b0 := eq_true c27
          have c27b1 : decide (x10_2.size + t275.size ≤ 9223372036854775807) = true := decide_eq_true c27
          try have c27b2 : (9223372036854775807 < x10_2.size + t275.size) = False := eq_false (Nat.not_lt.2 c27)
          have H' := Aside0.mk H
          clear H
          obtain ⟨Ao28, co28, eo28⟩ := Kd.R_slice HO_7.out
          subst eo28
          have p274 : 0 ≤ (x11_2 : Int) := of_decide_eq_true (by first | (with_reducible assumption) | assumption)
          have q274 : x11_2 < (t268.length : Int) := of_decide_eq_true (by first | (with_reducible assumption) | assumption)
          obtain ⟨ad274, e274, hx274_0, hx274_1⟩ := at_T31 (Kd.R_reads' HO_7.out).2.2 x11_2 p274 q274
          cases e274
          replace p274 := eq_true p274
          replace q274 := eq_true q274
          go_wp2_with (first | ((with_reducible refine gate_callee (f := 16) rfl ?_); refine goesL_ (some 77) rfl rfl Try.func16 (by kernel_rfl) rfl #[.agg #[.int .i64 ((rd_T31 t268 x11_2).f0), .string ((rd_T31 t268 x11_2).f1)]] rfl (by (try simp only [List.map_toArray, List.map_cons, List.map_nil]); first | done | rfl | (simp only [List.length_drop, List.length_take]; rfl)) ?_; (with_reducible refine (impl_WriteFrame.calls k2 ((rd_T31 t268 x11_2).f0) ((rd_T31 t268 x11_2).f1) t275 _ A26.out).mono ?_); rintro e w29 ⟨rfl, hb⟩; refine ⟨_, rfl, ?_⟩; have n0_ := Aside0.mk (Kd.R_below (by (with_reducible repeat (first | apply Kd.R_alloc | apply Kd.R_drewN | apply Kd.R_drew)); exact HO_7.out) hb); have n1_ := Aside0.mk (below_step (by repeat (first | (with_reducible first | exact HB.out | apply below_alloc | apply pw_below_drewN | apply below_drew1) | exact HB.out)) hb); clear HO_7; clear HB; have HO_7 := n0_; have HB := n1_; clear n0_ n1_; (try clear hb); (try clear hb2); (try clear hk); (try clear hi)))
          go_roundg k2
          case measure => have := HJ6.out; have := HK2.out; omega
          case rel => exact ⟨(x10_2 ++ t275), (wrap64 (x11_2 + 1)), (by first | rfl | (simp; done) | (simp [*]; done)), (by first | rfl | (simp; done) | (simp [*]; done)), H', ⟨by have := HJ6.out; have := HK2.out; omega⟩, ⟨by (with_reducible repeat (first | apply Kd.R_alloc | apply Kd.R_drewN | apply Kd.R_drew)); exact HO_7.out⟩, ⟨by repeat (first | (with_reducible first | exact HB.out | apply below_alloc | apply pw_below_drewN | apply below_drew1) | exact HB.out)⟩⟩
         ·
          rw [if_neg c27] at H
          exact absurd H (by simp)
        ·
         rw [if_neg c25] at H
         exact absurd H (by simp)
       ·
        rw [if_neg c24] at H
        have c24b0 : decide (x11_2 < (t268.length : Int)) = false := decide_eq_false c24
        clear c24
        by_cases c30 : 0 ≤ t269
        ·
         rw [if_pos c30] at H
         have c30b0 := eq_true c30
         have c30b1 : decide (0 ≤ t269) = true := decide_eq_true c30
         clear c30
         by_cases c31 : t269 ≤ (t262.size : Int)
         ·
          rw [if_pos c31] at H
          have c31b0 := eq_true c31
          have c31b1 : decide (t269 ≤ (t262.size : Int)) = true := decide_eq_true c31
          clear c31
          by_cases c32 : x10_2.toList = (t262.extract 0 (t269 : Int).toNat).toList
          ·
           rw [if_pos c32] at H
           have c32b0 : (x10_2.toList == (t262.extract 0 (t269 : Int).toNat).toList) = true := beq_iff_eq.mpr c32
           have c32b1 : (x10_2.toList != (t262.extract 0 (t269 : Int).toNat).toList) = false := bne_eq_false_iff_eq.mpr c32
           clear c32
           by_cases c33 : (wrap64 ((t262.size : Int) + 1)) = 0
           ·
            rw [if_pos c33] at H
            exact absurd H (by simp)
           ·
            rw [if_neg c33] at H
            have c33b0 : ((wrap64 ((t262.size : Int) + 1)) == 0) = false := beq_eq_false_iff_ne.mpr c33
            have c33b1 : ((wrap64 ((t262.size : Int) + 1)) != 0) = true := bne_iff_ne.mpr c33
            obtain ⟨ji34, hji34⟩ : ∃ j_ : Int, ((l0.length : Int) % (wrap64 ((t262.size : Int) + 1))) = j_ := ⟨_, rfl⟩
            replace H : (if 0 ≤ (ji34) then (if (ji34) ≤ (t262.size : Int) then ((impl_ReadFrames.f k2 (t262.extract 0 ((ji34) : Int).toNat)).bind fun bt276 => (if (bt276.1.length : Int) ≤ (t268.length : Int) then (if 0 ≤ (bt276.1.length : Int) then ((laws_sameFrames.f k2 bt276.1 (t268.take ((bt276.1.length : Int) : Int).toNat)).bind fun t285 => (if t285 = true then (if bt276.2.1 ≤ (ji34) then (some (decide (bt276.2.1 ≤ t269))) else (some false)) else (some false))) else (none)) else (some false))) else (none)) else (none)) = some r := by first | (rw [hji34] at H; exact H) | (simp only [hji34] at H ⊢; exact H)
            by_cases c35 : 0 ≤ (ji34)
            ·
             rw [if_pos c35] at H
             have c35b0 := eq_true c35
             have c35b1 : decide (0 ≤ (ji34)) = true := decide_eq_true c35
             clear c35
             by_cases c36 : (ji34) ≤ (t262.size : Int)
             ·
              rw [if_pos c36] at H
              have c36b0 := eq_true c36
              have c36b1 : decide ((ji34) ≤ (t262.size : Int)) = true := decide_eq_true c36
              clear c36
              replace H := Option.bind_eq_some_iff.mp H
              obtain ⟨⟨t276, t277, t278⟩, A370, H⟩ := H
              replace H : (if (t276.length : Int) ≤ (t268.length : Int) then (if 0 ≤ (t276.length : Int) then ((laws_sameFrames.f k2 t276 (t268.take ((t276.length : Int) : Int).toNat)).bind fun t285 => (if t285 = true then (if t277 ≤ (ji34) then (some (decide (t277 ≤ t269))) else (some false)) else (some false))) else (none)) else (some false)) = some r := H
              have A37 := Aside0.mk A370
              clear A370
              by_cases c38 : (t276.length : Int) ≤ (t268.length : Int)
              ·
               rw [if_pos c38] at H
               have c38b0 : decide ((t276.length : Int) ≤ (t268.length : Int)) = true := decide_eq_true c38
               have c38b1 : decide (t276.length ≤ t268.length) = true := decide_eq_true (Int.ofNat_le.mp c38)
               clear c38
               by_cases c39 : 0 ≤ (t276.length : Int)
               ·
                rw [if_pos c39] at H
                have c39b0 := eq_true c39
                have c39b1 : decide (0 ≤ (t276.length : Int)) = true := decide_eq_true c39
                clear c39
                have c40b0 := eq_true (of_decide_eq_true (by first | (with_reducible assumption) | assumption) : (t276.length : Int) ≤ (t268.length : Int))
                obtain ⟨y281, hy281⟩ : ∃ y_ : List (S31), y_ = (t268.take ((t276.length : Int) : Int).toNat) := ⟨_, rfl⟩
                replace H : ((laws_sameFrames.f k2 t276 y281).bind fun t285 => (if t285 = true then (if t277 ≤ (ji34) then (some (decide (t277 ≤ t269))) else (some false)) else (some false))) = some r := by first | (rw [hy281]; with_reducible exact H) | (have H2_ := (Option.bind_some _ _).symm.trans H; rw [hy281]; with_reducible exact H2_) | (have H2_ := (Option.bind_some _ _).symm.trans H; with_reducible exact H2_) | with_reducible exact H | (rw [hy281]; exact H) | exact H
                have Ny281 := Aside0.mk hy281
                clear hy281
                replace H := Option.bind_eq_some_iff.mp H
                obtain ⟨t285, A410, H⟩ := H
                replace H : (if t285 = true then (if t277 ≤ (ji34) then (some (decide (t277 ≤ t269))) else (some false)) else (some false)) = some r := H
                have A41 := Aside0.mk A410
                clear A410
                by_cases c42 : t285 = true
                ·
                 subst c42
                 have H1 : (if t277 ≤ (ji34) then (some (decide (t277 ≤ t269))) else (some false)) = some r := by rw [if_pos rfl] at H; exact H
                 clear H
                 have H := H1
                 clear H1
                 by_cases c43 : t277 ≤ (ji34)
                 ·
                  rw [if_pos c43] at H
                  have c43b0 : decide (t277 ≤ (ji34)) = true := decide_eq_true c43
                  clear c43
                  obtain rfl := Option.some.inj H
                  obtain ⟨Ao44, co44, eo44⟩ := Kd.R_slice HO_7.out
                  subst eo44
                  go_wp2_with (first | ((with_reducible refine gate_callee (f := 14) rfl ?_); refine goesL_ (some 94) rfl rfl Try.func14 (by kernel_rfl) rfl #[.string (t262.extract 0 ((ji34) : Int).toNat)] rfl (by (try simp only [List.map_toArray, List.map_cons, List.map_nil]); first | done | (simp only [hji34]; rfl) | rfl | (simp only [List.length_drop, List.length_take]; rfl)) ?_; (with_reducible refine (impl_ReadFrames.calls k2 (t262.extract 0 ((ji34) : Int).toNat) t276 t277 t278 _ A37.out).mono ?_); rintro e w45 ⟨v279, rfl, ho0, hb⟩; refine ⟨_, rfl, ?_⟩; have n0_ := Aside0.mk (Kd.R_elder' (by (with_reducible repeat (first | apply Kd.R_alloc | apply Kd.R_drewN | apply Kd.R_drew)); exact HO_7.out) (Kd.R_base ho0) hb); have n1_ := Aside0.mk (Kd.R_lower (Kd.R_new' ho0 (Kd.R_lt (by (with_reducible repeat (first | apply Kd.R_alloc | apply Kd.R_drewN | apply Kd.R_drew)); exact HO_7.out))) (below_size (by repeat (first | (with_reducible first | exact HB.out | apply below_alloc | apply pw_below_drewN | apply below_drew1) | exact HB.out)))); have n2_ := Aside0.mk (below_step (by repeat (first | (with_reducible first | exact HB.out | apply below_alloc | apply pw_below_drewN | apply below_drew1) | exact HB.out)) hb); clear HO_7; clear HB; have HO_7 := n0_; have HO280 := n1_; have HB := n2_; clear n0_ n1_ n2_; (try clear hb); (try clear hb2); (try clear hk); (try clear hi); (try clear ho0); obtain ⟨Ao46, co46, eo46⟩ := Kd.R_slice HO280.out; subst eo46; have q47 : ((t276.length : Int) : Int) ≤ ((t268.length : Int) : Int) := of_decide_eq_true (by first | (with_reducible assumption) | assumption); obtain ⟨i047, hi047, _, hsz47, _⟩ := info_parts info31; have hroom47 : t268.length ≤ co44 := (Kd.R_reads' HO_7.out).2.1; have hC47 : Kd.C k31 _ Ao44 t268.length t268 := (Kd.R_reads' HO_7.out).2.2; have hcut47 := cut_to (P := Try.prog) 25 31 .i64 Try.underlying25 hi047 Ao44 t268.length co44 (t276.length : Int) (of_decide_eq_true (by first | (with_reducible assumption) | assumption)) q47 hroom47; have hr47 := Kd.C_take (m := ((t276.length : Int) : Int).toNat) hC47 (by omega); have hy47 : y281.length = ((t276.length : Int) : Int).toNat := (by rw [Ny281.out, List.length_take]; omega); rw [← Ny281.out] at hr47; rw [← hy47] at hcut47; have HR284 := Aside0.mk hr47; have HC284 := Aside0.mk (show y281.length ≤ co44 from by omega); clear hr47 hC47 hroom47 hi047 hsz47; have KY47 := Aside0.mk hy47; clear hy47; have KL47 := Aside0.mk (show ((t276.length : Int) : Int).toNat ≤ t268.length from by omega); replace q47 := eq_true q47) | (go_at_call 15; (with_reducible refine (laws_sameFrames.calls k2 _ _ t276 _ _ y281 true _ ?side1 ?side2 ?side3 ?side4 A41.out).mono ?_); (case side1 => repeat (first | exact (Kd.R_reads' HO280.out).2.2 | (with_reducible refine Kd.C_alloc ?_ _) | (with_reducible refine Kd.C_drewN ?_ _) | (with_reducible refine Kd.C_drew ?_))); (case side2 => exact (Kd.R_reads' HO280.out).2.1); (case side3 => repeat (first | exact (by repeat (first | (with_reducible exact HR284.out) | (with_reducible refine Kd.C_alloc ?_ _) | (with_reducible refine Kd.C_drewN ?_ _) | (with_reducible refine Kd.C_drew ?_) | exact HR284.out)) | (with_reducible refine Kd.C_alloc ?_ _) | (with_reducible refine Kd.C_drewN ?_ _) | (with_reducible refine Kd.C_drew ?_))); (case side4 => exact HC284.out); rintro e w' ⟨rfl, ⟨nd, rfl⟩⟩))
                  go_ret
                  exact ⟨by first | rfl | (simp [errW_none, errW_some] <;> rfl) | (simp only [← hji34]; first | rfl | (simp [errW_none, errW_some] <;> rfl)) | (simp [*, errW_none, errW_some] <;> rfl), by repeat (first | (with_reducible first | exact HB.out | apply below_alloc | apply pw_below_drewN | apply below_drew1) | exact HB.out)⟩
                 ·
                  rw [if_neg c43] at H
                  have c43b0 : decide (t277 ≤ (ji34)) = false := decide_eq_false c43
                  clear c43
                  obtain rfl := Option.some.inj H
                  obtain ⟨Ao48, co48, eo48⟩ := Kd.R_slice HO_7.out
                  subst eo48
                  go_wp2_with (first | ((with_reducible refine gate_callee (f := 14) rfl ?_); refine goesL_ (some 94) rfl rfl Try.func14 (by kernel_rfl) rfl #[.string (t262.extract 0 ((ji34) : Int).toNat)] rfl (by (try simp only [List.map_toArray, List.map_cons, List.map_nil]); first | done | (simp only [hji34]; rfl) | rfl | (simp only [List.length_drop, List.length_take]; rfl)) ?_; (with_reducible refine (impl_ReadFrames.calls k2 (t262.extract 0 ((ji34) : Int).toNat) t276 t277 t278 _ A37.out).mono ?_); rintro e w49 ⟨v279, rfl, ho0, hb⟩; refine ⟨_, rfl, ?_⟩; have n0_ := Aside0.mk (Kd.R_elder' (by (with_reducible repeat (first | apply Kd.R_alloc | apply Kd.R_drewN | apply Kd.R_drew)); exact HO_7.out) (Kd.R_base ho0) hb); have n1_ := Aside0.mk (Kd.R_lower (Kd.R_new' ho0 (Kd.R_lt (by (with_reducible repeat (first | apply Kd.R_alloc | apply Kd.R_drewN | apply Kd.R_drew)); exact HO_7.out))) (below_size (by repeat (first | (with_reducible first | exact HB.out | apply below_alloc | apply pw_below_drewN | apply below_drew1) | exact HB.out)))); have n2_ := Aside0.mk (below_step (by repeat (first | (with_reducible first | exact HB.out | apply below_alloc | apply pw_below_drewN | apply below_drew1) | exact HB.out)) hb); clear HO_7; clear HB; have HO_7 := n0_; have HO280 := n1_; have HB := n2_; clear n0_ n1_ n2_; (try clear hb); (try clear hb2); (try clear hk); (try clear hi); (try clear ho0); obtain ⟨Ao50, co50, eo50⟩ := Kd.R_slice HO280.out; subst eo50; have q51 : ((t276.length : Int) : Int) ≤ ((t268.length : Int) : Int) := of_decide_eq_true (by first | (with_reducible assumption) | assumption); obtain ⟨i051, hi051, _, hsz51, _⟩ := info_parts info31; have hroom51 : t268.length ≤ co48 := (Kd.R_reads' HO_7.out).2.1; have hC51 : Kd.C k31 _ Ao48 t268.length t268 := (Kd.R_reads' HO_7.out).2.2; have hcut51 := cut_to (P := Try.prog) 25 31 .i64 Try.underlying25 hi051 Ao48 t268.length co48 (t276.length : Int) (of_decide_eq_true (by first | (with_reducible assumption) | assumption)) q51 hroom51; have hr51 := Kd.C_take (m := ((t276.length : Int) : Int).toNat) hC51 (by omega); have hy51 : y281.length = ((t276.length : Int) : Int).toNat := (by rw [Ny281.out, List.length_take]; omega); rw [← Ny281.out] at hr51; rw [← hy51] at hcut51; have HR284 := Aside0.mk hr51; have HC284 := Aside0.mk (show y281.length ≤ co48 from by omega); clear hr51 hC51 hroom51 hi051 hsz51; have KY51 := Aside0.mk hy51; clear hy51; have KL51 := Aside0.mk (show ((t276.length : Int) : Int).toNat ≤ t268.length from by omega); replace q51 := eq_true q51) | (go_at_call 15; (with_reducible refine (laws_sameFrames.calls k2 _ _ t276 _ _ y281 true _ ?side1 ?side2 ?side3 ?side4 A41.out).mono ?_); (case side1 => repeat (first | exact (Kd.R_reads' HO280.out).2.2 | (with_reducible refine Kd.C_alloc ?_ _) | (with_reducible refine Kd.C_drewN ?_ _) | (with_reducible refine Kd.C_drew ?_))); (case side2 => exact (Kd.R_reads' HO280.out).2.1); (case side3 => repeat (first | exact (by repeat (first | (with_reducible exact HR284.out) | (with_reducible refine Kd.C_alloc ?_ _) | (with_reducible refine Kd.C_drewN ?_ _) | (with_reducible refine Kd.C_drew ?_) | exact HR284.out)) | (with_reducible refine Kd.C_alloc ?_ _) | (with_reducible refine Kd.C_drewN ?_ _) | (with_reducible refine Kd.C_drew ?_))); (case side4 => exact HC284.out); rintro e w' ⟨rfl, ⟨nd, rfl⟩⟩))
                  go_ret
                  exact ⟨by first | rfl | (simp [errW_none, errW_some] <;> rfl) | (simp only [← hji34]; first | rfl | (simp [errW_none, errW_some] <;> rfl)) | (simp [*, errW_none, errW_some] <;> rfl), by repeat (first | (with_reducible first | exact HB.out | apply below_alloc | apply pw_below_drewN | apply below_drew1) | exact HB.out)⟩
                ·
                 replace c42 := Bool.eq_false_iff.mpr c42
                 subst c42
                 have H1 : (some false) = some r := by rw [if_neg (show ¬ (false = true) by decide)] at H; exact H
                 clear H
                 have H := H1
                 clear H1
                 obtain rfl := Option.some.inj H
                 obtain ⟨Ao52, co52, eo52⟩ := Kd.R_slice HO_7.out
                 subst eo52
                 go_wp2_with (first | ((with_reducible refine gate_callee (f := 14) rfl ?_); refine goesL_ (some 94) rfl rfl Try.func14 (by kernel_rfl) rfl #[.string (t262.extract 0 ((ji34) : Int).toNat)] rfl (by (try simp only [List.map_toArray, List.map_cons, List.map_nil]); first | done | (simp only [hji34]; rfl) | rfl | (simp only [List.length_drop, List.length_take]; rfl)) ?_; (with_reducible refine (impl_ReadFrames.calls k2 (t262.extract 0 ((ji34) : Int).toNat) t276 t277 t278 _ A37.out).mono ?_); rintro e w53 ⟨v279, rfl, ho0, hb⟩; refine ⟨_, rfl, ?_⟩; have n0_ := Aside0.mk (Kd.R_elder' (by (with_reducible repeat (first | apply Kd.R_alloc | apply Kd.R_drewN | apply Kd.R_drew)); exact HO_7.out) (Kd.R_base ho0) hb); have n1_ := Aside0.mk (Kd.R_lower (Kd.R_new' ho0 (Kd.R_lt (by (with_reducible repeat (first | apply Kd.R_alloc | apply Kd.R_drewN | apply Kd.R_drew)); exact HO_7.out))) (below_size (by repeat (first | (with_reducible first | exact HB.out | apply below_alloc | apply pw_below_drewN | apply below_drew1) | exact HB.out)))); have n2_ := Aside0.mk (below_step (by repeat (first | (with_reducible first | exact HB.out | apply below_alloc | apply pw_below_drewN | apply below_drew1) | exact HB.out)) hb); clear HO_7; clear HB; have HO_7 := n0_; have HO280 := n1_; have HB := n2_; clear n0_ n1_ n2_; (try clear hb); (try clear hb2); (try clear hk); (try clear hi); (try clear ho0); obtain ⟨Ao54, co54, eo54⟩ := Kd.R_slice HO280.out; subst eo54; have q55 : ((t276.length : Int) : Int) ≤ ((t268.length : Int) : Int) := of_decide_eq_true (by first | (with_reducible assumption) | assumption); obtain ⟨i055, hi055, _, hsz55, _⟩ := info_parts info31; have hroom55 : t268.length ≤ co52 := (Kd.R_reads' HO_7.out).2.1; have hC55 : Kd.C k31 _ Ao52 t268.length t268 := (Kd.R_reads' HO_7.out).2.2; have hcut55 := cut_to (P := Try.prog) 25 31 .i64 Try.underlying25 hi055 Ao52 t268.length co52 (t276.length : Int) (of_decide_eq_true (by first | (with_reducible assumption) | assumption)) q55 hroom55; have hr55 := Kd.C_take (m := ((t276.length : Int) : Int).toNat) hC55 (by omega); have hy55 : y281.length = ((t276.length : Int) : Int).toNat := (by rw [Ny281.out, List.length_take]; omega); rw [← Ny281.out] at hr55; rw [← hy55] at hcut55; have HR284 := Aside0.mk hr55; have HC284 := Aside0.mk (show y281.length ≤ co52 from by omega); clear hr55 hC55 hroom55 hi055 hsz55; have KY55 := Aside0.mk hy55; clear hy55; have KL55 := Aside0.mk (show ((t276.length : Int) : Int).toNat ≤ t268.length from by omega); replace q55 := eq_true q55) | (go_at_call 15; (with_reducible refine (laws_sameFrames.calls k2 _ _ t276 _ _ y281 false _ ?side1 ?side2 ?side3 ?side4 A41.out).mono ?_); (case side1 => repeat (first | exact (Kd.R_reads' HO280.out).2.2 | (with_reducible refine Kd.C_alloc ?_ _) | (with_reducible refine Kd.C_drewN ?_ _) | (with_reducible refine Kd.C_drew ?_))); (case side2 => exact (Kd.R_reads' HO280.out).2.1); (case side3 => repeat (first | exact (by repeat (first | (with_reducible exact HR284.out) | (with_reducible refine Kd.C_alloc ?_ _) | (with_reducible refine Kd.C_drewN ?_ _) | (with_reducible refine Kd.C_drew ?_) | exact HR284.out)) | (with_reducible refine Kd.C_alloc ?_ _) | (with_reducible refine Kd.C_drewN ?_ _) | (with_reducible refine Kd.C_drew ?_))); (case side4 => exact HC284.out); rintro e w' ⟨rfl, ⟨nd, rfl⟩⟩))
                 go_ret
                 exact ⟨by first | rfl | (simp [errW_none, errW_some] <;> rfl) | (simp only [← hji34]; first | rfl | (simp [errW_none, errW_some] <;> rfl)) | (simp [*, errW_none, errW_some] <;> rfl), by repeat (first | (with_reducible first | exact HB.out | apply below_alloc | apply pw_below_drewN | apply below_drew1) | exact HB.out)⟩
               ·
                rw [if_neg c39] at H
                exact absurd H (by simp)
              ·
               rw [if_neg c38] at H
               have c38b0 : decide ((t276.length : Int) ≤ (t268.length : Int)) = false := decide_eq_false c38
               have c38b1 : decide (t276.length ≤ t268.length) = false := decide_eq_false (fun h => c38 (Int.ofNat_le.mpr h))
               clear c38
               obtain rfl := Option.some.inj H
               obtain ⟨Ao56, co56, eo56⟩ := Kd.R_slice HO_7.out
               subst eo56
               go_wp2_with (first | ((with_reducible refine gate_callee (f := 14) rfl ?_); refine goesL_ (some 94) rfl rfl Try.func14 (by kernel_rfl) rfl #[.string (t262.extract 0 ((ji34) : Int).toNat)] rfl (by (try simp only [List.map_toArray, List.map_cons, List.map_nil]); first | done | (simp only [hji34]; rfl) | rfl | (simp only [List.length_drop, List.length_take]; rfl)) ?_; (with_reducible refine (impl_ReadFrames.calls k2 (t262.extract 0 ((ji34) : Int).toNat) t276 t277 t278 _ A37.out).mono ?_); rintro e w57 ⟨v279, rfl, ho0, hb⟩; refine ⟨_, rfl, ?_⟩; have n0_ := Aside0.mk (Kd.R_elder' (by (with_reducible repeat (first | apply Kd.R_alloc | apply Kd.R_drewN | apply Kd.R_drew)); exact HO_7.out) (Kd.R_base ho0) hb); have n1_ := Aside0.mk (Kd.R_lower (Kd.R_new' ho0 (Kd.R_lt (by (with_reducible repeat (first | apply Kd.R_alloc | apply Kd.R_drewN | apply Kd.R_drew)); exact HO_7.out))) (below_size (by repeat (first | (with_reducible first | exact HB.out | apply below_alloc | apply pw_below_drewN | apply below_drew1) | exact HB.out)))); have n2_ := Aside0.mk (below_step (by repeat (first | (with_reducible first | exact HB.out | apply below_alloc | apply pw_below_drewN | apply below_drew1) | exact HB.out)) hb); clear HO_7; clear HB; have HO_7 := n0_; have HO280 := n1_; have HB := n2_; clear n0_ n1_ n2_; (try clear hb); (try clear hb2); (try clear hk); (try clear hi); (try clear ho0); obtain ⟨Ao58, co58, eo58⟩ := Kd.R_slice HO280.out; subst eo58))
               go_ret
               exact ⟨by first | rfl | (simp [errW_none, errW_some] <;> rfl) | (simp only [← hji34]; first | rfl | (simp [errW_none, errW_some] <;> rfl)) | (simp [*, errW_none, errW_some] <;> rfl), by repeat (first | (with_reducible first | exact HB.out | apply below_alloc | apply pw_below_drewN | apply below_drew1) | exact HB.out)⟩
             ·
              rw [if_neg c36] at H
              exact absurd H (by simp)
            ·
             rw [if_neg c35] at H
             exact absurd H (by simp)
          ·
           rw [if_neg c32] at H
           have c32b0 : (x10_2.toList == (t262.extract 0 (t269 : Int).toNat).toList) = false := beq_eq_false_iff_ne.mpr c32
           have c32b1 : (x10_2.toList != (t262.extract 0 (t269 : Int).toNat).toList) = true := bne_iff_ne.mpr c32
           obtain rfl := Option.some.inj H
           obtain ⟨Ao59, co59, eo59⟩ := Kd.R_slice HO_7.out
           subst eo59
           go_wp2
           go_ret
           exact ⟨by first | rfl | (simp [errW_none, errW_some] <;> rfl) | (simp [*, errW_none, errW_some] <;> rfl), by repeat (first | (with_reducible first | exact HB.out | apply below_alloc | apply pw_below_drewN | apply below_drew1) | exact HB.out)⟩
         ·
          rw [if_neg c31] at H
          exact absurd H (by simp)
        ·
         rw [if_neg c30] at H
         exact absurd H (by simp)

/-- THE ONE PURE STATEMENT of laws_FnFramed: yours. -/
def laws_FnFramed.Pure : Prop := ∀ (l0 : List Int), l0.length ≤ maxLen → l0.length * 1 ≤ 140737488351232 → (∀ x ∈ l0, (Lit.int .u8 x).wf = true) → ∃ k, laws_FnFramed.f k l0 = some true
theorem laws_FnFramed.walk (P : laws_FnFramed.Pure) (a0 : Option Addr) (len0 cap0 : Nat) (z0 : List Int) (w : World) (w0 : (a0 = none ∧ len0 = 0 ∧ cap0 = 0 ∧ z0 = []) ∨ ∃ x, a0 = some x ∧ len0 ≤ cap0 ∧ cap0 ≤ maxLen ∧ z0.length = cap0 ∧ (∀ i, i < z0.length → w.cell? (x.add i) = some (.int .u8 (z0.getD i 0))) ∧ ∀ n ∈ z0, (Lit.int .u8 n).wf = true) (y0 : len0 * 1 ≤ 140737488351232) :
  Calls Try.prog 3 #[.slice a0 len0 cap0] w fun e w' => e = .returned (.bool true) ∧ Below w.heap.size w w' := by
 obtain ⟨l0, rfl, hr0, hm0, hw0, hc0⟩ := ReadsInt.ofRowC w0
 obtain ⟨k, h⟩ := P l0 hm0 y0 hw0
 refine (laws_FnFramed.calls k _ _ l0 true w (Kd.C_of_reads (d := (0 : Int)) (h1 := fun _ => rfl) hr0) hc0 h).mono ?_
 rintro e w' ⟨rfl, hd⟩
 exact ⟨rfl, hd⟩

end Go.Proofs.Ythjpfkphfenbeaa.QFnFramed
