/- Written by wip/myprint.py of this repo (the kit's print, with additions of this session). -/
import Derived.Test.YtjcejdajbapliaaQFnNumbersx0
import Derived.Test.YtjcejdajbapliaaQFnNumbersx1
import Derived.Test.YtjcejdajbapliaaQFnNumbersx2
import Derived.Test.YtjcejdajbapliaaQFnNumbersx3
set_option maxRecDepth 100000
namespace Go.Proofs.Ytjcejdajbapliaa.QFnNumbers
open Go.RowKit Go.Proofs.YtjcejdajbapliaaW.PrintWords Go.Proofs.YtjcejdajbapliaaW.PrintLast Go.Proofs.YtjcejdajbapliaaW.PrintMore
attribute [local go_sem] max2_int min2_int max_two min_two max_three min_three max_four min_four   -- for this text's walks alone
set_option linter.unusedVariables false
set_option linter.unusedSimpArgs false

/-! ### laws_FnNumbers: function 5 -/
mutual
def laws_FnNumbers.j0 : Nat → List Int → List Int → Bool → Option (Bool)
 | 0, _, _, _ => none
 | k + 1, x0, x1, x27 => if x27 = true then (some true) else ((spec_DrawPutNumber.f k x0).bind fun t226 => ((impl_PutNumber.f k t226).bind fun t227 => ((spec_DrawPutText.f x0).bind fun t228 => ((impl_PutText.f k t228).bind fun t229 => ((spec_PutNumber.f k t226).bind fun t230 => (if t227.toList = t230.toList then ((spec_PutText.f k t228).bind fun t231 => (laws_FnNumbers.j1 k x1 t226 t227 t228 t229 (t229.toList != t231.toList))) else (laws_FnNumbers.j1 k x1 t226 t227 t228 t229 true)))))))
def laws_FnNumbers.j1 : Nat → List Int → Int → ByteArray → ByteArray → ByteArray → Bool → Option (Bool)
 | 0, _, _, _, _, _, _ => none
 | k + 1, x1, x5, x6, x7, x8, x45 => if x45 = true then (some false) else (if x6.toList = ([] : List UInt8) then (laws_FnNumbers.j2 k x1 x6 x7 x8) else (if x6.size + x8.size ≤ 9223372036854775807 then ((impl_TakeNumber.f k (x6 ++ x8)).bind fun bt232 => (if bt232.2.2 = true then (if bt232.1 = x5 then (if bt232.2.1.toList = x8.toList then (laws_FnNumbers.j2 k x1 x6 x7 x8) else (some false)) else (some false)) else (some false))) else (none)))
def laws_FnNumbers.j2 : Nat → List Int → ByteArray → ByteArray → ByteArray → Option (Bool)
 | 0, _, _, _, _ => none
 | k + 1, x1, x6, x7, x8 => if x8.toList = ([] : List UInt8) then (laws_FnNumbers.j3 k x1) else (if x8.size + x6.size ≤ 9223372036854775807 then ((impl_TakeText.f k (x8 ++ x6)).bind fun bt235 => (if bt235.2.2 = true then (if bt235.1.toList = x7.toList then (if bt235.2.1.toList = x6.toList then (laws_FnNumbers.j3 k x1) else (some false)) else (some false)) else (some false))) else (none))
def laws_FnNumbers.j3 : Nat → List Int → Option (Bool)
 | 0, _ => none
 | k + 1, x1 => (spec_DrawTakeNumber.f k x1).bind fun t238 => ((spec_TakeNumber.f k t238).bind fun bt239 => ((impl_TakeNumber.f k t238).bind fun bt242 => (if (bt242.2.2 == bt239.2.2) = true then (if bt242.2.2 = true then ((impl_PutNumber.f k bt242.1).bind fun t245 => (if t245.size + bt242.2.1.size ≤ 9223372036854775807 then (some ((t245 ++ bt242.2.1).toList == t238.toList)) else (none))) else (some true)) else (some false))))
end
def laws_FnNumbers.f (k : Nat) (l0 : List Int) (l1 : List Int) : Option (Bool) := (laws_big.f l0).bind fun t224 => (if t224 = true then (laws_FnNumbers.j0 k l0 l1 true) else ((laws_big.f l1).bind fun t225 => (laws_FnNumbers.j0 k l0 l1 t225)))
theorem laws_FnNumbers.mono_l : ∀ k, (∀ y0 y1 y2, LeO (laws_FnNumbers.j0 k y0 y1 y2) (laws_FnNumbers.j0 (k + 1) y0 y1 y2)) ∧ (∀ y0 y1 y2 y3 y4 y5, LeO (laws_FnNumbers.j1 k y0 y1 y2 y3 y4 y5) (laws_FnNumbers.j1 (k + 1) y0 y1 y2 y3 y4 y5)) ∧ (∀ y0 y1 y2 y3, LeO (laws_FnNumbers.j2 k y0 y1 y2 y3) (laws_FnNumbers.j2 (k + 1) y0 y1 y2 y3)) ∧ (∀ y0, LeO (laws_FnNumbers.j3 k y0) (laws_FnNumbers.j3 (k + 1) y0))
 | 0 => ⟨fun _ _ _ r h => by simp [laws_FnNumbers.j0] at h, fun _ _ _ _ _ _ r h => by simp [laws_FnNumbers.j1] at h, fun _ _ _ _ r h => by simp [laws_FnNumbers.j2] at h, fun _ r h => by simp [laws_FnNumbers.j3] at h⟩
 | k + 1 => by
  obtain ⟨ih0, ih1, ih2, ih3⟩ := laws_FnNumbers.mono_l k
  refine ⟨?_, ?_, ?_, ?_⟩
  ·
   intro y0 y1 y2
   unfold laws_FnNumbers.j0
   repeat' first
   | (with_reducible exact ih0 _ _ _)
   | (with_reducible exact ih1 _ _ _ _ _ _)
   | (with_reducible exact ih2 _ _ _ _)
   | (with_reducible exact ih3 _)
   | (with_reducible exact impl_PutNumber.mono _ _)
   | (with_reducible exact impl_PutText.mono _ _)
   | (with_reducible exact impl_TakeNumber.mono _ _)
   | (with_reducible exact impl_TakeText.mono _ _)
   | (with_reducible exact spec_DrawPutNumber.mono _ _)
   | (with_reducible exact spec_DrawTakeNumber.mono _ _)
   | (with_reducible exact spec_PutNumber.mono _ _)
   | (with_reducible exact spec_PutText.mono _ _)
   | (with_reducible exact spec_TakeNumber.mono _ _)
   | (with_reducible exact LeO.refl _)
   | (with_reducible exact LeO.none _)
   | (with_reducible refine LeO.ite ?_ ?_)
   | (with_reducible refine LeO.bind ?_ (fun _ => ?_))
   | exact ih0 _ _ _
   | exact ih1 _ _ _ _ _ _
   | exact ih2 _ _ _ _
   | exact ih3 _
   | exact impl_PutNumber.mono _ _
   | exact impl_PutText.mono _ _
   | exact impl_TakeNumber.mono _ _
   | exact impl_TakeText.mono _ _
   | exact spec_DrawPutNumber.mono _ _
   | exact spec_DrawTakeNumber.mono _ _
   | exact spec_PutNumber.mono _ _
   | exact spec_PutText.mono _ _
   | exact spec_TakeNumber.mono _ _
   | exact LeO.none _
   | refine LeO.ite ?_ ?_
   | refine LeO.bind ?_ (fun _ => ?_)
  ·
   intro y0 y1 y2 y3 y4 y5
   unfold laws_FnNumbers.j1
   repeat' first
   | (with_reducible exact ih0 _ _ _)
   | (with_reducible exact ih1 _ _ _ _ _ _)
   | (with_reducible exact ih2 _ _ _ _)
   | (with_reducible exact ih3 _)
   | (with_reducible exact impl_PutNumber.mono _ _)
   | (with_reducible exact impl_PutText.mono _ _)
   | (with_reducible exact impl_TakeNumber.mono _ _)
   | (with_reducible exact impl_TakeText.mono _ _)
   | (with_reducible exact spec_DrawPutNumber.mono _ _)
   | (with_reducible exact spec_DrawTakeNumber.mono _ _)
   | (with_reducible exact spec_PutNumber.mono _ _)
   | (with_reducible exact spec_PutText.mono _ _)
   | (with_reducible exact spec_TakeNumber.mono _ _)
   | (with_reducible exact LeO.refl _)
   | (with_reducible exact LeO.none _)
   | (with_reducible refine LeO.ite ?_ ?_)
   | (with_reducible refine LeO.bind ?_ (fun _ => ?_))
   | exact ih0 _ _ _
   | exact ih1 _ _ _ _ _ _
   | exact ih2 _ _ _ _
   | exact ih3 _
   | exact impl_PutNumber.mono _ _
   | exact impl_PutText.mono _ _
   | exact impl_TakeNumber.mono _ _
   | exact impl_TakeText.mono _ _
   | exact spec_DrawPutNumber.mono _ _
   | exact spec_DrawTakeNumber.mono _ _
   | exact spec_PutNumber.mono _ _
   | exact spec_PutText.mono _ _
   | exact spec_TakeNumber.mono _ _
   | exact LeO.none _
   | refine LeO.ite ?_ ?_
   | refine LeO.bind ?_ (fun _ => ?_)
  ·
   intro y0 y1 y2 y3
   unfold laws_FnNumbers.j2
   repeat' first
   | (with_reducible exact ih0 _ _ _)
   | (with_reducible exact ih1 _ _ _ _ _ _)
   | (with_reducible exact ih2 _ _ _ _)
   | (with_reducible exact ih3 _)
   | (with_reducible exact impl_PutNumber.mono _ _)
   | (with_reducible exact impl_PutText.mono _ _)
   | (with_reducible exact impl_TakeNumber.mono _ _)
   | (with_reducible exact impl_TakeText.mono _ _)
   | (with_reducible exact spec_DrawPutNumber.mono _ _)
   | (with_reducible exact spec_DrawTakeNumber.mono _ _)
   | (with_reducible exact spec_PutNumber.mono _ _)
   | (with_reducible exact spec_PutText.mono _ _)
   | (with_reducible exact spec_TakeNumber.mono _ _)
   | (with_reducible exact LeO.refl _)
   | (with_reducible exact LeO.none _)
   | (with_reducible refine LeO.ite ?_ ?_)
   | (with_reducible refine LeO.bind ?_ (fun _ => ?_))
   | exact ih0 _ _ _
   | exact ih1 _ _ _ _ _ _
   | exact ih2 _ _ _ _
   | exact ih3 _
   | exact impl_PutNumber.mono _ _
   | exact impl_PutText.mono _ _
   | exact impl_TakeNumber.mono _ _
   | exact impl_TakeText.mono _ _
   | exact spec_DrawPutNumber.mono _ _
   | exact spec_DrawTakeNumber.mono _ _
   | exact spec_PutNumber.mono _ _
   | exact spec_PutText.mono _ _
   | exact spec_TakeNumber.mono _ _
   | exact LeO.none _
   | refine LeO.ite ?_ ?_
   | refine LeO.bind ?_ (fun _ => ?_)
  ·
   intro y0
   unfold laws_FnNumbers.j3
   repeat' first
   | (with_reducible exact ih0 _ _ _)
   | (with_reducible exact ih1 _ _ _ _ _ _)
   | (with_reducible exact ih2 _ _ _ _)
   | (with_reducible exact ih3 _)
   | (with_reducible exact impl_PutNumber.mono _ _)
   | (with_reducible exact impl_PutText.mono _ _)
   | (with_reducible exact impl_TakeNumber.mono _ _)
   | (with_reducible exact impl_TakeText.mono _ _)
   | (with_reducible exact spec_DrawPutNumber.mono _ _)
   | (with_reducible exact spec_DrawTakeNumber.mono _ _)
   | (with_reducible exact spec_PutNumber.mono _ _)
   | (with_reducible exact spec_PutText.mono _ _)
   | (with_reducible exact spec_TakeNumber.mono _ _)
   | (with_reducible exact LeO.refl _)
   | (with_reducible exact LeO.none _)
   | (with_reducible refine LeO.ite ?_ ?_)
   | (with_reducible refine LeO.bind ?_ (fun _ => ?_))
   | exact ih0 _ _ _
   | exact ih1 _ _ _ _ _ _
   | exact ih2 _ _ _ _
   | exact ih3 _
   | exact impl_PutNumber.mono _ _
   | exact impl_PutText.mono _ _
   | exact impl_TakeNumber.mono _ _
   | exact impl_TakeText.mono _ _
   | exact spec_DrawPutNumber.mono _ _
   | exact spec_DrawTakeNumber.mono _ _
   | exact spec_PutNumber.mono _ _
   | exact spec_PutText.mono _ _
   | exact spec_TakeNumber.mono _ _
   | exact LeO.none _
   | refine LeO.ite ?_ ?_
   | refine LeO.bind ?_ (fun _ => ?_)
theorem laws_FnNumbers.mono : ∀ a0 a1 k, LeO (laws_FnNumbers.f k a0 a1) (laws_FnNumbers.f (k + 1) a0 a1) := by
 intro a0 a1 k
 obtain ⟨ih0, ih1, ih2, ih3⟩ := laws_FnNumbers.mono_l k
 unfold laws_FnNumbers.f
 repeat' first
   | (with_reducible exact ih0 _ _ _)
   | (with_reducible exact ih1 _ _ _ _ _ _)
   | (with_reducible exact ih2 _ _ _ _)
   | (with_reducible exact ih3 _)
   | (with_reducible exact impl_PutNumber.mono _ _)
   | (with_reducible exact impl_PutText.mono _ _)
   | (with_reducible exact impl_TakeNumber.mono _ _)
   | (with_reducible exact impl_TakeText.mono _ _)
   | (with_reducible exact spec_DrawPutNumber.mono _ _)
   | (with_reducible exact spec_DrawTakeNumber.mono _ _)
   | (with_reducible exact spec_PutNumber.mono _ _)
   | (with_reducible exact spec_PutText.mono _ _)
   | (with_reducible exact spec_TakeNumber.mono _ _)
   | (with_reducible exact LeO.refl _)
   | (with_reducible exact LeO.none _)
   | (with_reducible refine LeO.ite ?_ ?_)
   | (with_reducible refine LeO.bind ?_ (fun _ => ?_))
   | exact ih0 _ _ _
   | exact ih1 _ _ _ _ _ _
   | exact ih2 _ _ _ _
   | exact ih3 _
   | exact impl_PutNumber.mono _ _
   | exact impl_PutText.mono _ _
   | exact impl_TakeNumber.mono _ _
   | exact impl_TakeText.mono _ _
   | exact spec_DrawPutNumber.mono _ _
   | exact spec_DrawTakeNumber.mono _ _
   | exact spec_PutNumber.mono _ _
   | exact spec_PutText.mono _ _
   | exact spec_TakeNumber.mono _ _
   | exact LeO.none _
   | refine LeO.ite ?_ ?_
   | refine LeO.bind ?_ (fun _ => ?_)
set_option maxHeartbeats 8000000 in
set_option maxRecDepth 100000 in
theorem laws_FnNumbers.calls (k : Nat) (A0 : Option Addr) (c0 : Nat) (l0 : List Int) (A1 : Option Addr) (c1 : Nat) (l1 : List Int) (r : Bool) (w : World) (hr0 : Kd.C (Kd.int .u8) w A0 l0.length l0) (hc0 : l0.length ≤ c0) (hr1 : Kd.C (Kd.int .u8) w A1 l1.length l1) (hc1 : l1.length ≤ c1) (h : laws_FnNumbers.f k l0 l1 = some r) :
  Calls Try.prog 5 #[.slice A0 l0.length c0, .slice A1 l1.length c1] w fun e w' => e = .returned (.bool r) ∧ Below w.heap.size w w' := by
 have HR0 := Aside0.mk hr0
 have HC0 := Aside0.mk hc0
 clear hr0 hc0
 have HR1 := Aside0.mk hr1
 have HC1 := Aside0.mk hc1
 clear hr1 hc1
 have HB := Aside0.mk (Below.refl w.heap.size w)
 have H : ((laws_big.f l0).bind fun t224 => (if t224 = true then (laws_FnNumbers.j0 k l0 l1 true) else ((laws_big.f l1).bind fun t225 => (laws_FnNumbers.j0 k l0 l1 t225)))) = some r := h
 clear h
 have HC3 := Aside0.mk H
 clear H
 go_enter Try.func5, Try.ntmps5
 go_upto_region 1 with (fail)
 go_cut [27] (fun v27 wc => ∃ (kq : Nat) (x27_2 : Bool), v27 = .bool x27_2 ∧ Aside0 (laws_FnNumbers.j0 kq l0 l1 x27_2 = some r) ∧ Aside0 (kq ≤ k) ∧ Aside0 (Below w.heap.size w wc))
 case first =>
  have H := HC3.out
  clear HC3
  replace H := Option.bind_eq_some_iff.mp H
  obtain ⟨t224, A40, H⟩ := H
  replace H : (if t224 = true then (laws_FnNumbers.j0 k l0 l1 true) else ((laws_big.f l1).bind fun t225 => (laws_FnNumbers.j0 k l0 l1 t225))) = some r := H
  have A4 := Aside0.mk A40
  clear A40
  by_cases c5 : t224 = true
  ·
   subst c5
   have H1 : (laws_FnNumbers.j0 k l0 l1 true) = some r := by rw [if_pos rfl] at H; exact H
   clear H
   have H := H1
   clear H1
   have H' := Aside0.mk H
   clear H
   go_wp2_with (first | ((with_reducible refine gate_callee (f := 17) rfl ?_); refine goesL_ (some 23) rfl rfl Try.func17 (by kernel_rfl) rfl #[.slice A0 l0.length c0] rfl (by (try simp only [List.map_toArray, List.map_cons, List.map_nil]); first | done | rfl | (simp only [List.length_drop, List.length_take]; rfl)) ?_; (with_reducible refine (laws_big.calls _ _ l0 true _ ?side1 ?side2 A4.out).mono ?_); (case side1 => repeat (first | exact (Kd.C_below HR0.out HB.out) | (with_reducible refine Kd.C_alloc ?_ _) | (with_reducible refine Kd.C_drewN ?_ _) | (with_reducible refine Kd.C_drew ?_))); (case side2 => exact HC0.out); rintro e w' ⟨rfl, ⟨nd, rfl⟩⟩; refine ⟨_, rfl, ?_⟩))
   go_meet
   case rel => exact ⟨_, (true), (by first | rfl | (simp; done) | (simp [*]; done)), H', ⟨by first | omega | exact Nat.le_refl _⟩, ⟨by repeat (first | (with_reducible first | exact HB.out | apply below_alloc | apply pw_below_drewN | apply below_drew1) | exact HB.out)⟩⟩
  ·
   replace c5 := Bool.eq_false_iff.mpr c5
   subst c5
   have H1 : ((laws_big.f l1).bind fun t225 => (laws_FnNumbers.j0 k l0 l1 t225)) = some r := by rw [if_neg (show ¬ (false = true) by decide)] at H; exact H
   clear H
   have H := H1
   clear H1
   replace H := Option.bind_eq_some_iff.mp H
   obtain ⟨t225, A60, H⟩ := H
   replace H : (laws_FnNumbers.j0 k l0 l1 t225) = some r := H
   have A6 := Aside0.mk A60
   clear A60
   have H' := Aside0.mk H
   clear H
   go_wp2_with (first | ((with_reducible refine gate_callee (f := 17) rfl ?_); refine goesL_ (some 23) rfl rfl Try.func17 (by kernel_rfl) rfl #[.slice A0 l0.length c0] rfl (by (try simp only [List.map_toArray, List.map_cons, List.map_nil]); first | done | rfl | (simp only [List.length_drop, List.length_take]; rfl)) ?_; (with_reducible refine (laws_big.calls _ _ l0 false _ ?side1 ?side2 A4.out).mono ?_); (case side1 => repeat (first | exact (Kd.C_below HR0.out HB.out) | (with_reducible refine Kd.C_alloc ?_ _) | (with_reducible refine Kd.C_drewN ?_ _) | (with_reducible refine Kd.C_drew ?_))); (case side2 => exact HC0.out); rintro e w' ⟨rfl, ⟨nd, rfl⟩⟩; refine ⟨_, rfl, ?_⟩) | (go_at_call 17; (with_reducible refine (laws_big.calls _ _ l1 t225 _ ?side1 ?side2 A6.out).mono ?_); (case side1 => repeat (first | exact (Kd.C_below HR1.out (by repeat (first | (with_reducible first | exact HB.out | apply below_alloc | apply pw_below_drewN | apply below_drew1) | exact HB.out))) | (with_reducible refine Kd.C_alloc ?_ _) | (with_reducible refine Kd.C_drewN ?_ _) | (with_reducible refine Kd.C_drew ?_))); (case side2 => exact HC1.out); rintro e w' ⟨rfl, ⟨nd, rfl⟩⟩))
   go_meet
   case rel => exact ⟨_, (t225), (by first | rfl | (simp; done) | (simp [*]; done)), H', ⟨by first | omega | exact Nat.le_refl _⟩, ⟨by repeat (first | (with_reducible first | exact HB.out | apply below_alloc | apply pw_below_drewN | apply below_drew1) | exact HB.out)⟩⟩
 case rest =>
  clear HC3
  try clear c1
  try clear p2
  try clear c5
  obtain ⟨kq, x27_2, rfl, HA, HJ2, HB⟩ := hcut
  cases kq with
  | zero => exact absurd HA.out (by simp [laws_FnNumbers.j0])
  | succ kj2 =>
   have H := HA.out
   clear HA
   simp only [laws_FnNumbers.j0] at H
   by_cases c7 : x27_2 = true
   ·
    subst c7
    have H1 : (some true) = some r := by rw [if_pos rfl] at H; exact H
    clear H
    have H := H1
    clear H1
    obtain rfl := Option.some.inj H
    go_wp2
    go_ret
    exact ⟨by first | rfl | (simp [errW_none, errW_some] <;> rfl) | (simp [*, errW_none, errW_some] <;> rfl), by repeat (first | (with_reducible first | exact HB.out | apply below_alloc | apply pw_below_drewN | apply below_drew1) | exact HB.out)⟩
   ·
    replace c7 := Bool.eq_false_iff.mpr c7
    subst c7
    have H1 : ((spec_DrawPutNumber.f kj2 l0).bind fun t226 => ((impl_PutNumber.f kj2 t226).bind fun t227 => ((spec_DrawPutText.f l0).bind fun t228 => ((impl_PutText.f kj2 t228).bind fun t229 => ((spec_PutNumber.f kj2 t226).bind fun t230 => (if t227.toList = t230.toList then ((spec_PutText.f kj2 t228).bind fun t231 => (laws_FnNumbers.j1 kj2 l1 t226 t227 t228 t229 (t229.toList != t231.toList))) else (laws_FnNumbers.j1 kj2 l1 t226 t227 t228 t229 true))))))) = some r := by rw [if_neg (show ¬ (false = true) by decide)] at H; exact H
    clear H
    have H := H1
    clear H1
    replace H := Option.bind_eq_some_iff.mp H
    obtain ⟨t226, A80, H⟩ := H
    replace H : ((impl_PutNumber.f kj2 t226).bind fun t227 => ((spec_DrawPutText.f l0).bind fun t228 => ((impl_PutText.f kj2 t228).bind fun t229 => ((spec_PutNumber.f kj2 t226).bind fun t230 => (if t227.toList = t230.toList then ((spec_PutText.f kj2 t228).bind fun t231 => (laws_FnNumbers.j1 kj2 l1 t226 t227 t228 t229 (t229.toList != t231.toList))) else (laws_FnNumbers.j1 kj2 l1 t226 t227 t228 t229 true)))))) = some r := H
    have A8 := Aside0.mk A80
    clear A80
    replace H := Option.bind_eq_some_iff.mp H
    obtain ⟨t227, A90, H⟩ := H
    replace H : ((spec_DrawPutText.f l0).bind fun t228 => ((impl_PutText.f kj2 t228).bind fun t229 => ((spec_PutNumber.f kj2 t226).bind fun t230 => (if t227.toList = t230.toList then ((spec_PutText.f kj2 t228).bind fun t231 => (laws_FnNumbers.j1 kj2 l1 t226 t227 t228 t229 (t229.toList != t231.toList))) else (laws_FnNumbers.j1 kj2 l1 t226 t227 t228 t229 true))))) = some r := H
    have A9 := Aside0.mk A90
    clear A90
    replace H := Option.bind_eq_some_iff.mp H
    obtain ⟨t228, A100, H⟩ := H
    replace H : ((impl_PutText.f kj2 t228).bind fun t229 => ((spec_PutNumber.f kj2 t226).bind fun t230 => (if t227.toList = t230.toList then ((spec_PutText.f kj2 t228).bind fun t231 => (laws_FnNumbers.j1 kj2 l1 t226 t227 t228 t229 (t229.toList != t231.toList))) else (laws_FnNumbers.j1 kj2 l1 t226 t227 t228 t229 true)))) = some r := H
    have A10 := Aside0.mk A100
    clear A100
    replace H := Option.bind_eq_some_iff.mp H
    obtain ⟨t229, A110, H⟩ := H
    replace H : ((spec_PutNumber.f kj2 t226).bind fun t230 => (if t227.toList = t230.toList then ((spec_PutText.f kj2 t228).bind fun t231 => (laws_FnNumbers.j1 kj2 l1 t226 t227 t228 t229 (t229.toList != t231.toList))) else (laws_FnNumbers.j1 kj2 l1 t226 t227 t228 t229 true))) = some r := H
    have A11 := Aside0.mk A110
    clear A110
    have HC12 := Aside0.mk H
    clear H
    go_upto_region 7 with (first | ((with_reducible refine gate_callee (f := 21) rfl ?_); refine goesL_ (some 29) rfl rfl Try.func21 (by kernel_rfl) rfl #[.slice A0 l0.length c0] rfl (by (try simp only [List.map_toArray, List.map_cons, List.map_nil]); first | done | rfl | (simp only [List.length_drop, List.length_take]; rfl)) ?_; (with_reducible refine (spec_DrawPutNumber.calls kj2 _ _ l0 t226 _ ?side1 ?side2 A8.out).mono ?_); (case side1 => repeat (first | exact (Kd.C_below HR0.out HB.out) | (with_reducible refine Kd.C_alloc ?_ _) | (with_reducible refine Kd.C_drewN ?_ _) | (with_reducible refine Kd.C_drew ?_))); (case side2 => exact HC0.out); rintro e w13 ⟨rfl, hb⟩; refine ⟨_, rfl, ?_⟩; have n0_ := Aside0.mk (below_step (by repeat (first | (with_reducible first | exact HB.out | apply below_alloc | apply pw_below_drewN | apply below_drew1) | exact HB.out)) hb); clear HB; have HB := n0_; clear n0_; (try clear hb); (try clear hb2); (try clear hk); (try clear hi)) | ((with_reducible refine gate_callee (f := 22) rfl ?_); refine goesL_ (some 31) rfl rfl Try.func22 (by kernel_rfl) rfl #[.int .i64 t226] rfl (by (try simp only [List.map_toArray, List.map_cons, List.map_nil]); first | done | rfl | (simp only [List.length_drop, List.length_take]; rfl)) ?_; (with_reducible refine (impl_PutNumber.calls kj2 t226 t227 _ A9.out).mono ?_); rintro e w14 ⟨rfl, hb⟩; refine ⟨_, rfl, ?_⟩; have n0_ := Aside0.mk (below_step (by repeat (first | (with_reducible first | exact HB.out | apply below_alloc | apply pw_below_drewN | apply below_drew1) | exact HB.out)) hb); clear HB; have HB := n0_; clear n0_; (try clear hb); (try clear hb2); (try clear hk); (try clear hi)) | ((with_reducible refine gate_callee (f := 23) rfl ?_); refine goesL_ (some 33) rfl rfl Try.func23 (by kernel_rfl) rfl #[.slice A0 l0.length c0] rfl (by (try simp only [List.map_toArray, List.map_cons, List.map_nil]); first | done | rfl | (simp only [List.length_drop, List.length_take]; rfl)) ?_; (with_reducible refine (spec_DrawPutText.calls _ _ l0 t228 _ ?side1 ?side2 A10.out).mono ?_); (case side1 => repeat (first | exact (Kd.C_below HR0.out HB.out) | (with_reducible refine Kd.C_alloc ?_ _) | (with_reducible refine Kd.C_drewN ?_ _) | (with_reducible refine Kd.C_drew ?_))); (case side2 => exact HC0.out); rintro e w15 ⟨rfl, hb⟩; refine ⟨_, rfl, ?_⟩; have n0_ := Aside0.mk (below_step (by repeat (first | (with_reducible first | exact HB.out | apply below_alloc | apply pw_below_drewN | apply below_drew1) | exact HB.out)) hb); clear HB; have HB := n0_; clear n0_; (try clear hb); (try clear hb2); (try clear hk); (try clear hi)) | ((with_reducible refine gate_callee (f := 24) rfl ?_); refine goesL_ (some 35) rfl rfl Try.func24 (by kernel_rfl) rfl #[.string t228] rfl (by (try simp only [List.map_toArray, List.map_cons, List.map_nil]); first | done | rfl | (simp only [List.length_drop, List.length_take]; rfl)) ?_; (with_reducible refine (impl_PutText.calls kj2 t228 t229 _ A11.out).mono ?_); rintro e w16 ⟨rfl, hb⟩; refine ⟨_, rfl, ?_⟩; have n0_ := Aside0.mk (below_step (by repeat (first | (with_reducible first | exact HB.out | apply below_alloc | apply pw_below_drewN | apply below_drew1) | exact HB.out)) hb); clear HB; have HB := n0_; clear n0_; (try clear hb); (try clear hb2); (try clear hk); (try clear hi)))
    (try simp only [Act.put, List.setIfInBounds_toArray, List.set_cons_zero, List.set_cons_succ])
    go_cut [45] (fun v45 wc => ∃ (kq : Nat) (x45_11 : Bool), v45 = .bool x45_11 ∧ Aside0 (laws_FnNumbers.j1 kq l1 t226 t227 t228 t229 x45_11 = some r) ∧ Aside0 (kq ≤ kj2) ∧ Aside0 (Below w.heap.size w wc))
    case first =>
     have H := HC12.out
     clear HC12
     replace H := Option.bind_eq_some_iff.mp H
     obtain ⟨t230, A170, H⟩ := H
     replace H : (if t227.toList = t230.toList then ((spec_PutText.f kj2 t228).bind fun t231 => (laws_FnNumbers.j1 kj2 l1 t226 t227 t228 t229 (t229.toList != t231.toList))) else (laws_FnNumbers.j1 kj2 l1 t226 t227 t228 t229 true)) = some r := H
     have A17 := Aside0.mk A170
     clear A170
     by_cases c18 : t227.toList = t230.toList
     ·
      rw [if_pos c18] at H
      have c18b0 : (t227.toList == t230.toList) = true := beq_iff_eq.mpr c18
      have c18b1 : (t227.toList != t230.toList) = false := bne_eq_false_iff_eq.mpr c18
      clear c18
      (first | rw [c18b0] | (simp only [i64_w, i32_w]; rw [c18b0]) | skip)
      replace H := Option.bind_eq_some_iff.mp H
      obtain ⟨t231, A190, H⟩ := H
      replace H : (laws_FnNumbers.j1 kj2 l1 t226 t227 t228 t229 (t229.toList != t231.toList)) = some r := H
      have A19 := Aside0.mk A190
      clear A190
      have H' := Aside0.mk H
      clear H
      go_wp2_with (first | ((with_reducible refine gate_callee (f := 25) rfl ?_); refine goesL_ (some 38) rfl rfl Try.func25 (by kernel_rfl) rfl #[.int .i64 t226] rfl (by (try simp only [List.map_toArray, List.map_cons, List.map_nil]); first | done | rfl | (simp only [List.length_drop, List.length_take]; rfl)) ?_; (with_reducible refine (spec_PutNumber.calls kj2 t226 t230 _ A17.out).mono ?_); rintro e w20 ⟨rfl, hb⟩; refine ⟨_, rfl, ?_⟩; have n0_ := Aside0.mk (below_step (by repeat (first | (with_reducible first | exact HB.out | apply below_alloc | apply pw_below_drewN | apply below_drew1) | exact HB.out)) hb); clear HB; have HB := n0_; clear n0_; (try clear hb); (try clear hb2); (try clear hk); (try clear hi)) | (go_at_call 26; (with_reducible refine (spec_PutText.calls kj2 t228 t231 _ A19.out).mono ?_); rintro e w21 ⟨rfl, hb⟩; have n0_ := Aside0.mk (below_step (by repeat (first | (with_reducible first | exact HB.out | apply below_alloc | apply pw_below_drewN | apply below_drew1) | exact HB.out)) hb); clear HB; have HB := n0_; clear n0_; (try clear hb); (try clear hb2); (try clear hk); (try clear hi)))
      go_meet
      case rel => exact ⟨_, ((t229.toList != t231.toList)), (by first | rfl | (simp; done) | (simp [*]; done)), H', ⟨by have := HJ2.out; first | omega | exact Nat.le_refl _⟩, ⟨by repeat (first | (with_reducible first | exact HB.out | apply below_alloc | apply pw_below_drewN | apply below_drew1) | exact HB.out)⟩⟩
     ·
      rw [if_neg c18] at H
      have c18b0 : (t227.toList == t230.toList) = false := beq_eq_false_iff_ne.mpr c18
      have c18b1 : (t227.toList != t230.toList) = true := bne_iff_ne.mpr c18
      (first | rw [c18b0] | (simp only [i64_w, i32_w]; rw [c18b0]) | skip)
      have H' := Aside0.mk H
      clear H
      go_wp2_with (first | ((with_reducible refine gate_callee (f := 25) rfl ?_); refine goesL_ (some 38) rfl rfl Try.func25 (by kernel_rfl) rfl #[.int .i64 t226] rfl (by (try simp only [List.map_toArray, List.map_cons, List.map_nil]); first | done | rfl | (simp only [List.length_drop, List.length_take]; rfl)) ?_; (with_reducible refine (spec_PutNumber.calls kj2 t226 t230 _ A17.out).mono ?_); rintro e w22 ⟨rfl, hb⟩; refine ⟨_, rfl, ?_⟩; have n0_ := Aside0.mk (below_step (by repeat (first | (with_reducible first | exact HB.out | apply below_alloc | apply pw_below_drewN | apply below_drew1) | exact HB.out)) hb); clear HB; have HB := n0_; clear n0_; (try clear hb); (try clear hb2); (try clear hk); (try clear hi)))
      go_meet
      case rel => exact ⟨_, (true), (by first | rfl | (simp; done) | (simp [*]; done)), H', ⟨by have := HJ2.out; first | omega | exact Nat.le_refl _⟩, ⟨by repeat (first | (with_reducible first | exact HB.out | apply below_alloc | apply pw_below_drewN | apply below_drew1) | exact HB.out)⟩⟩
    case rest =>
     clear HC12
     try clear c1
     try clear c2
     try clear p2
     try clear c5
     try clear c7
     try clear c17
     try clear c18
     try clear c18b0
     try clear c18b1
     try clear c21
     try clear c22
     try clear p2
     obtain ⟨kq, x45_11, rfl, HA, HJ11, HB⟩ := hcut
     cases kq with
     | zero => exact absurd HA.out (by simp [laws_FnNumbers.j1])
     | succ kj11 =>
      have H := HA.out
      clear HA
      simp only [laws_FnNumbers.j1] at H
      by_cases c23 : x45_11 = true
      ·
       subst c23
       have H1 : (some false) = some r := by rw [if_pos rfl] at H; exact H
       clear H
       have H := H1
       clear H1
       obtain rfl := Option.some.inj H
       go_wp2
       go_ret
       exact ⟨by first | rfl | (simp [errW_none, errW_some] <;> rfl) | (simp [*, errW_none, errW_some] <;> rfl), by repeat (first | (with_reducible first | exact HB.out | apply below_alloc | apply pw_below_drewN | apply below_drew1) | exact HB.out)⟩
      ·
       replace c23 := Bool.eq_false_iff.mpr c23
       subst c23
       have H1 : (if t227.toList = ([] : List UInt8) then (laws_FnNumbers.j2 kj11 l1 t227 t228 t229) else (if t227.size + t229.size ≤ 9223372036854775807 then ((impl_TakeNumber.f kj11 (t227 ++ t229)).bind fun bt232 => (if bt232.2.2 = true then (if bt232.1 = t226 then (if bt232.2.1.toList = t229.toList then (laws_FnNumbers.j2 kj11 l1 t227 t228 t229) else (some false)) else (some false)) else (some false))) else (none))) = some r := by rw [if_neg (show ¬ (false = true) by decide)] at H; exact H
       clear H
       have H := H1
       clear H1
       have HC24 := Aside0.mk H
       clear H
       go_upto_if 47 with (fail)
       go_cut [] (fun wc => ∃ (kq : Nat), Aside0 (laws_FnNumbers.j2 kq l1 t227 t228 t229 = some r) ∧ Aside0 (kq ≤ kj11) ∧ Aside0 (Below w.heap.size w wc))
       case first =>
        have H := HC24.out
        clear HC24
        by_cases c25 : t227.toList = ([] : List UInt8)
        ·
         rw [if_pos c25] at H
         have c25b0 : (t227.toList == ([] : List UInt8)) = true := beq_iff_eq.mpr c25
         have c25b1 : (t227.toList != ([] : List UInt8)) = false := bne_eq_false_iff_eq.mpr c25
         have c25b2 : t227.toList.isEmpty = true := by simpa using c25
         clear c25
         (first | rw [c25b0] | (simp only [i64_w, i32_w]; rw [c25b0]) | (rw [c25b2]; try simp only [Bool.not_true, Bool.not_false]) | skip)
         have H' := Aside0.mk H
         clear H
         go_wp2
         go_meet
         case rel => exact ⟨_, H', ⟨by have := HJ2.out; have := HJ11.out; first | omega | exact Nat.le_refl _⟩, ⟨by repeat (first | (with_reducible first | exact HB.out | apply below_alloc | apply pw_below_drewN | apply below_drew1) | exact HB.out)⟩⟩
        ·
         rw [if_neg c25] at H
         have c25b0 : (t227.toList == ([] : List UInt8)) = false := beq_eq_false_iff_ne.mpr c25
         have c25b1 : (t227.toList != ([] : List UInt8)) = true := bne_iff_ne.mpr c25
         have c25b2 : t227.toList.isEmpty = false := by simpa using c25
         (first | rw [c25b0] | (simp only [i64_w, i32_w]; rw [c25b0]) | (rw [c25b2]; try simp only [Bool.not_true, Bool.not_false]) | skip)
         by_cases c26 : t227.size + t229.size ≤ 9223372036854775807
         ·
          rw [if_pos c26] at H
          have c26b0 := eq_true c26
          have c26b1 : decide (t227.size + t229.size ≤ 9223372036854775807) = true := decide_eq_true c26
          try have c26b2 : (9223372036854775807 < t227.size + t229.size) = False := eq_false (Nat.not_lt.2 c26)
          replace H := Option.bind_eq_some_iff.mp H
          obtain ⟨⟨t232, t233, t234⟩, A270, H⟩ := H
          replace H : (if t234 = true then (if t232 = t226 then (if t233.toList = t229.toList then (laws_FnNumbers.j2 kj11 l1 t227 t228 t229) else (some false)) else (some false)) else (some false)) = some r := H
          have A27 := Aside0.mk A270
          clear A270
          by_cases c28 : t234 = true
          ·
           subst c28
           have H1 : (if t232 = t226 then (if t233.toList = t229.toList then (laws_FnNumbers.j2 kj11 l1 t227 t228 t229) else (some false)) else (some false)) = some r := by rw [if_pos rfl] at H; exact H
           clear H
           have H := H1
           clear H1
           by_cases c29 : t232 = t226
           ·
            rw [if_pos c29] at H
            have c29b0 : (t232 == t226) = true := beq_iff_eq.mpr c29
            have c29b1 : (t232 != t226) = false := bne_eq_false_iff_eq.mpr c29
            clear c29
            by_cases c30 : t233.toList = t229.toList
            ·
             rw [if_pos c30] at H
             have c30b0 : (t233.toList == t229.toList) = true := beq_iff_eq.mpr c30
             have c30b1 : (t233.toList != t229.toList) = false := bne_eq_false_iff_eq.mpr c30
             clear c30
             have H' := Aside0.mk H
             clear H
             go_wp2_with (first | ((with_reducible refine gate_callee (f := 27) rfl ?_); refine goesL_ (some 52) rfl rfl Try.func27 (by kernel_rfl) rfl #[.string (t227 ++ t229)] rfl (by (try simp only [List.map_toArray, List.map_cons, List.map_nil]); first | done | rfl | (simp only [List.length_drop, List.length_take]; rfl)) ?_; (with_reducible refine (impl_TakeNumber.calls kj11 (t227 ++ t229) t232 t233 true _ A27.out).mono ?_); rintro e w' ⟨rfl, ⟨nd, rfl⟩⟩; refine ⟨_, rfl, ?_⟩))
             go_meet
             case rel => exact ⟨_, H', ⟨by have := HJ2.out; have := HJ11.out; first | omega | exact Nat.le_refl _⟩, ⟨by repeat (first | (with_reducible first | exact HB.out | apply below_alloc | apply pw_below_drewN | apply below_drew1) | exact HB.out)⟩⟩
            ·
             rw [if_neg c30] at H
             have c30b0 : (t233.toList == t229.toList) = false := beq_eq_false_iff_ne.mpr c30
             have c30b1 : (t233.toList != t229.toList) = true := bne_iff_ne.mpr c30
             obtain rfl := Option.some.inj H
             go_wp2_with (first | ((with_reducible refine gate_callee (f := 27) rfl ?_); refine goesL_ (some 52) rfl rfl Try.func27 (by kernel_rfl) rfl #[.string (t227 ++ t229)] rfl (by (try simp only [List.map_toArray, List.map_cons, List.map_nil]); first | done | rfl | (simp only [List.length_drop, List.length_take]; rfl)) ?_; (with_reducible refine (impl_TakeNumber.calls kj11 (t227 ++ t229) t232 t233 true _ A27.out).mono ?_); rintro e w' ⟨rfl, ⟨nd, rfl⟩⟩; refine ⟨_, rfl, ?_⟩))
             go_ret
             exact ⟨by first | rfl | (simp [errW_none, errW_some] <;> rfl) | (simp [*, errW_none, errW_some] <;> rfl), by repeat (first | (with_reducible first | exact HB.out | apply below_alloc | apply pw_below_drewN | apply below_drew1) | exact HB.out)⟩
           ·
            rw [if_neg c29] at H
            have c29b0 : (t232 == t226) = false := beq_eq_false_iff_ne.mpr c29
            have c29b1 : (t232 != t226) = true := bne_iff_ne.mpr c29
            obtain rfl := Option.some.inj H
            go_wp2_with (first | ((with_reducible refine gate_callee (f := 27) rfl ?_); refine goesL_ (some 52) rfl rfl Try.func27 (by kernel_rfl) rfl #[.string (t227 ++ t229)] rfl (by (try simp only [List.map_toArray, List.map_cons, List.map_nil]); first | done | rfl | (simp only [List.length_drop, List.length_take]; rfl)) ?_; (with_reducible refine (impl_TakeNumber.calls kj11 (t227 ++ t229) t232 t233 true _ A27.out).mono ?_); rintro e w' ⟨rfl, ⟨nd, rfl⟩⟩; refine ⟨_, rfl, ?_⟩))
            go_ret
            exact ⟨by first | rfl | (simp [errW_none, errW_some] <;> rfl) | (simp [*, errW_none, errW_some] <;> rfl), by repeat (first | (with_reducible first | exact HB.out | apply below_alloc | apply pw_below_drewN | apply below_drew1) | exact HB.out)⟩
          ·
           replace c28 := Bool.eq_false_iff.mpr c28
           subst c28
           have H1 : (some false) = some r := by rw [if_neg (show ¬ (false = true) by decide)] at H; exact H
           clear H
           have H := H1
           clear H1
           obtain rfl := Option.some.inj H
           go_wp2_with (first | ((with_reducible refine gate_callee (f := 27) rfl ?_); refine goesL_ (some 52) rfl rfl Try.func27 (by kernel_rfl) rfl #[.string (t227 ++ t229)] rfl (by (try simp only [List.map_toArray, List.map_cons, List.map_nil]); first | done | rfl | (simp only [List.length_drop, List.length_take]; rfl)) ?_; (with_reducible refine (impl_TakeNumber.calls kj11 (t227 ++ t229) t232 t233 false _ A27.out).mono ?_); rintro e w' ⟨rfl, ⟨nd, rfl⟩⟩; refine ⟨_, rfl, ?_⟩))
           go_ret
           exact ⟨by first | rfl | (simp [errW_none, errW_some] <;> rfl) | (simp [*, errW_none, errW_some] <;> rfl), by repeat (first | (with_reducible first | exact HB.out | apply below_alloc | apply pw_below_drewN | apply below_drew1) | exact HB.out)⟩
         ·
          rw [if_neg c26] at H
          exact absurd H (by simp)
       case rest =>
        clear HC24
        try clear c1
        try clear c2
        try clear p2
        try clear c3
        try clear c5
        try clear c7
        try clear c17
        try clear c18
        try clear c18b0
        try clear c18b1
        try clear c21
        try clear c22
        try clear c23
        try clear c24
        try clear c25
        try clear c25b0
        try clear c25b1
        try clear c25b2
        try clear c26
        try clear c26b0
        try clear c26b1
        try clear c26b2
        try clear c27
        try clear c28
        try clear c29
        try clear c29b0
        try clear c29b1
        try clear c30
        try clear c30b0
        try clear c30b1
        try clear p2
        obtain ⟨kq, HA, HJ23, HB⟩ := hcut
        cases kq with
        | zero => exact absurd HA.out (by simp [laws_FnNumbers.j2])
        | succ kj23 =>
         have H := HA.out
         clear HA
         simp only [laws_FnNumbers.j2] at H
         have HC31 := Aside0.mk H
         clear H
         go_upto_if 69 with (fail)
         go_cut [] (fun wc => ∃ (kq : Nat), Aside0 (laws_FnNumbers.j3 kq l1 = some r) ∧ Aside0 (kq ≤ kj23) ∧ Aside0 (Below w.heap.size w wc))
         case first =>
          have H := HC31.out
          clear HC31
          by_cases c32 : t229.toList = ([] : List UInt8)
          ·
           rw [if_pos c32] at H
           have c32b0 : (t229.toList == ([] : List UInt8)) = true := beq_iff_eq.mpr c32
           have c32b1 : (t229.toList != ([] : List UInt8)) = false := bne_eq_false_iff_eq.mpr c32
           have c32b2 : t229.toList.isEmpty = true := by simpa using c32
           clear c32
           (first | rw [c32b0] | (simp only [i64_w, i32_w]; rw [c32b0]) | (rw [c32b2]; try simp only [Bool.not_true, Bool.not_false]) | skip)
           have H' := Aside0.mk H
           clear H
           go_wp2
           go_meet
           case rel => exact ⟨_, H', ⟨by have := HJ2.out; have := HJ11.out; have := HJ23.out; first | omega | exact Nat.le_refl _⟩, ⟨by repeat (first | (with_reducible first | exact HB.out | apply below_alloc | apply pw_below_drewN | apply below_drew1) | exact HB.out)⟩⟩
          ·
           rw [if_neg c32] at H
           have c32b0 : (t229.toList == ([] : List UInt8)) = false := beq_eq_false_iff_ne.mpr c32
           have c32b1 : (t229.toList != ([] : List UInt8)) = true := bne_iff_ne.mpr c32
           have c32b2 : t229.toList.isEmpty = false := by simpa using c32
           (first | rw [c32b0] | (simp only [i64_w, i32_w]; rw [c32b0]) | (rw [c32b2]; try simp only [Bool.not_true, Bool.not_false]) | skip)
           by_cases c33 : t229.size + t227.size ≤ 9223372036854775807
           ·
            rw [if_pos c33] at H
            have c33b0 := eq_true c33
            have c33b1 : decide (t229.size + t227.size ≤ 9223372036854775807) = true := decide_eq_true c33
            try have c33b2 : (9223372036854775807 < t229.size + t227.size) = False := eq_false (Nat.not_lt.2 c33)
            replace H := Option.bind_eq_some_iff.mp H
            obtain ⟨⟨t235, t236, t237⟩, A340, H⟩ := H
            replace H : (if t237 = true then (if t235.toList = t228.toList then (if t236.toList = t227.toList then (laws_FnNumbers.j3 kj23 l1) else (some false)) else (some false)) else (some false)) = some r := H
            have A34 := Aside0.mk A340
            clear A340
            by_cases c35 : t237 = true
            ·
             subst c35
             have H1 : (if t235.toList = t228.toList then (if t236.toList = t227.toList then (laws_FnNumbers.j3 kj23 l1) else (some false)) else (some false)) = some r := by rw [if_pos rfl] at H; exact H
             clear H
             have H := H1
             clear H1
             by_cases c36 : t235.toList = t228.toList
             ·
              rw [if_pos c36] at H
              have c36b0 : (t235.toList == t228.toList) = true := beq_iff_eq.mpr c36
              have c36b1 : (t235.toList != t228.toList) = false := bne_eq_false_iff_eq.mpr c36
              clear c36
              by_cases c37 : t236.toList = t227.toList
              ·
               rw [if_pos c37] at H
               have c37b0 : (t236.toList == t227.toList) = true := beq_iff_eq.mpr c37
               have c37b1 : (t236.toList != t227.toList) = false := bne_eq_false_iff_eq.mpr c37
               clear c37
               have H' := Aside0.mk H
               clear H
               go_wp2_with (first | ((with_reducible refine gate_callee (f := 28) rfl ?_); refine goesL_ (some 74) rfl rfl Try.func28 (by kernel_rfl) rfl #[.string (t229 ++ t227)] rfl (by (try simp only [List.map_toArray, List.map_cons, List.map_nil]); first | done | rfl | (simp only [List.length_drop, List.length_take]; rfl)) ?_; (with_reducible refine (impl_TakeText.calls kj23 (t229 ++ t227) t235 t236 true _ A34.out).mono ?_); rintro e w' ⟨rfl, ⟨nd, rfl⟩⟩; refine ⟨_, rfl, ?_⟩))
               go_meet
               case rel => exact ⟨_, H', ⟨by have := HJ2.out; have := HJ11.out; have := HJ23.out; first | omega | exact Nat.le_refl _⟩, ⟨by repeat (first | (with_reducible first | exact HB.out | apply below_alloc | apply pw_below_drewN | apply below_drew1) | exact HB.out)⟩⟩
              ·
               rw [if_neg c37] at H
               have c37b0 : (t236.toList == t227.toList) = false := beq_eq_false_iff_ne.mpr c37
               have c37b1 : (t236.toList != t227.toList) = true := bne_iff_ne.mpr c37
               obtain rfl := Option.some.inj H
               go_wp2_with (first | ((with_reducible refine gate_callee (f := 28) rfl ?_); refine goesL_ (some 74) rfl rfl Try.func28 (by kernel_rfl) rfl #[.string (t229 ++ t227)] rfl (by (try simp only [List.map_toArray, List.map_cons, List.map_nil]); first | done | rfl | (simp only [List.length_drop, List.length_take]; rfl)) ?_; (with_reducible refine (impl_TakeText.calls kj23 (t229 ++ t227) t235 t236 true _ A34.out).mono ?_); rintro e w' ⟨rfl, ⟨nd, rfl⟩⟩; refine ⟨_, rfl, ?_⟩))
               go_ret
               exact ⟨by first | rfl | (simp [errW_none, errW_some] <;> rfl) | (simp [*, errW_none, errW_some] <;> rfl), by repeat (first | (with_reducible first | exact HB.out | apply below_alloc | apply pw_below_drewN | apply below_drew1) | exact HB.out)⟩
             ·
              rw [if_neg c36] at H
              have c36b0 : (t235.toList == t228.toList) = false := beq_eq_false_iff_ne.mpr c36
              have c36b1 : (t235.toList != t228.toList) = true := bne_iff_ne.mpr c36
              obtain rfl := Option.some.inj H
              go_wp2_with (first | ((with_reducible refine gate_callee (f := 28) rfl ?_); refine goesL_ (some 74) rfl rfl Try.func28 (by kernel_rfl) rfl #[.string (t229 ++ t227)] rfl (by (try simp only [List.map_toArray, List.map_cons, List.map_nil]); first | done | rfl | (simp only [List.length_drop, List.length_take]; rfl)) ?_; (with_reducible refine (impl_TakeText.calls kj23 (t229 ++ t227) t235 t236 true _ A34.out).mono ?_); rintro e w' ⟨rfl, ⟨nd, rfl⟩⟩; refine ⟨_, rfl, ?_⟩))
              go_ret
              exact ⟨by first | rfl | (simp [errW_none, errW_some] <;> rfl) | (simp [*, errW_none, errW_some] <;> rfl), by repeat (first | (with_reducible first | exact HB.out | apply below_alloc | apply pw_below_drewN | apply below_drew1) | exact HB.out)⟩
            ·
             replace c35 := Bool.eq_false_iff.mpr c35
             subst c35
             have H1 : (some false) = some r := by rw [if_neg (show ¬ (false = true) by decide)] at H; exact H
             clear H
             have H := H1
             clear H1
             obtain rfl := Option.some.inj H
             go_wp2_with (first | ((with_reducible refine gate_callee (f := 28) rfl ?_); refine goesL_ (some 74) rfl rfl Try.func28 (by kernel_rfl) rfl #[.string (t229 ++ t227)] rfl (by (try simp only [List.map_toArray, List.map_cons, List.map_nil]); first | done | rfl | (simp only [List.length_drop, List.length_take]; rfl)) ?_; (with_reducible refine (impl_TakeText.calls kj23 (t229 ++ t227) t235 t236 false _ A34.out).mono ?_); rintro e w' ⟨rfl, ⟨nd, rfl⟩⟩; refine ⟨_, rfl, ?_⟩))
             go_ret
             exact ⟨by first | rfl | (simp [errW_none, errW_some] <;> rfl) | (simp [*, errW_none, errW_some] <;> rfl), by repeat (first | (with_reducible first | exact HB.out | apply below_alloc | apply pw_below_drewN | apply below_drew1) | exact HB.out)⟩
           ·
            rw [if_neg c33] at H
            exact absurd H (by simp)
         case rest =>
          clear HC31
          try clear c1
          try clear c2
          try clear p2
          try clear c3
          try clear c5
          try clear c7
          try clear c17
          try clear c18
          try clear c18b0
          try clear c18b1
          try clear c21
          try clear c22
          try clear c23
          try clear c24
          try clear c25
          try clear c25b0
          try clear c25b1
          try clear c25b2
          try clear c26
          try clear c26b0
          try clear c26b1
          try clear c26b2
          try clear c27
          try clear c28
          try clear c29
          try clear c29b0
          try clear c29b1
          try clear c30
          try clear c30b0
          try clear c30b1
          try clear c32
          try clear c32b0
          try clear c32b1
          try clear c32b2
          try clear c33
          try clear c33b0
          try clear c33b1
          try clear c33b2
          try clear c35
          try clear c36
          try clear c36b0
          try clear c36b1
          try clear c37
          try clear c37b0
          try clear c37b1
          try clear p2
          obtain ⟨kq, HA, HJ30, HB⟩ := hcut
          cases kq with
          | zero => exact absurd HA.out (by simp [laws_FnNumbers.j3])
          | succ kj30 =>
           have H := HA.out
           clear HA
           simp only [laws_FnNumbers.j3] at H
           replace H := Option.bind_eq_some_iff.mp H
           obtain ⟨t238, A380, H⟩ := H
           replace H : ((spec_TakeNumber.f kj30 t238).bind fun bt239 => ((impl_TakeNumber.f kj30 t238).bind fun bt242 => (if (bt242.2.2 == bt239.2.2) = true then (if bt242.2.2 = true then ((impl_PutNumber.f kj30 bt242.1).bind fun t245 => (if t245.size + bt242.2.1.size ≤ 9223372036854775807 then (some ((t245 ++ bt242.2.1).toList == t238.toList)) else (none))) else (some true)) else (some false)))) = some r := H
           have A38 := Aside0.mk A380
           clear A380
           replace H := Option.bind_eq_some_iff.mp H
           obtain ⟨⟨t239, t240, t241⟩, A390, H⟩ := H
           replace H : ((impl_TakeNumber.f kj30 t238).bind fun bt242 => (if (bt242.2.2 == t241) = true then (if bt242.2.2 = true then ((impl_PutNumber.f kj30 bt242.1).bind fun t245 => (if t245.size + bt242.2.1.size ≤ 9223372036854775807 then (some ((t245 ++ bt242.2.1).toList == t238.toList)) else (none))) else (some true)) else (some false))) = some r := H
           have A39 := Aside0.mk A390
           clear A390
           replace H := Option.bind_eq_some_iff.mp H
           obtain ⟨⟨t242, t243, t244⟩, A400, H⟩ := H
           replace H : (if (t244 == t241) = true then (if t244 = true then ((impl_PutNumber.f kj30 t242).bind fun t245 => (if t245.size + t243.size ≤ 9223372036854775807 then (some ((t245 ++ t243).toList == t238.toList)) else (none))) else (some true)) else (some false)) = some r := H
           have A40 := Aside0.mk A400
           clear A400
           by_cases c41 : (t244 == t241) = true
           ·
            rw [if_pos c41] at H
            have c41b0 : (t244 == t241) = true := c41
            (try (have c41b1 : decide (t244 = t241) = true := by simpa using c41))
            (try (have c41b2 : (t244 == t241) = true := by simpa using c41))
            clear c41
            by_cases c42 : t244 = true
            ·
             subst c42
             have H1 : ((impl_PutNumber.f kj30 t242).bind fun t245 => (if t245.size + t243.size ≤ 9223372036854775807 then (some ((t245 ++ t243).toList == t238.toList)) else (none))) = some r := by rw [if_pos rfl] at H; exact H
             clear H
             have H := H1
             clear H1
             replace H := Option.bind_eq_some_iff.mp H
             obtain ⟨t245, A430, H⟩ := H
             replace H : (if t245.size + t243.size ≤ 9223372036854775807 then (some ((t245 ++ t243).toList == t238.toList)) else (none)) = some r := H
             have A43 := Aside0.mk A430
             clear A430
             by_cases c44 : t245.size + t243.size ≤ 9223372036854775807
             ·
              rw [if_pos c44] at H
              have c44b0 := eq_true c44
              have c44b1 : decide (t245.size + t243.size ≤ 9223372036854775807) = true := decide_eq_true c44
              try have c44b2 : (9223372036854775807 < t245.size + t243.size) = False := eq_false (Nat.not_lt.2 c44)
              obtain rfl := Option.some.inj H
              go_wp2_with (first | ((with_reducible refine gate_callee (f := 29) rfl ?_); refine goesL_ (some 91) rfl rfl Try.func29 (by kernel_rfl) rfl #[.slice A1 l1.length c1] rfl (by (try simp only [List.map_toArray, List.map_cons, List.map_nil]); first | done | rfl | (simp only [List.length_drop, List.length_take]; rfl)) ?_; (with_reducible refine (spec_DrawTakeNumber.calls kj30 _ _ l1 t238 _ ?side1 ?side2 A38.out).mono ?_); (case side1 => repeat (first | exact (Kd.C_below HR1.out HB.out) | (with_reducible refine Kd.C_alloc ?_ _) | (with_reducible refine Kd.C_drewN ?_ _) | (with_reducible refine Kd.C_drew ?_))); (case side2 => exact HC1.out); rintro e w45 ⟨rfl, hb⟩; refine ⟨_, rfl, ?_⟩; have n0_ := Aside0.mk (below_step (by repeat (first | (with_reducible first | exact HB.out | apply below_alloc | apply pw_below_drewN | apply below_drew1) | exact HB.out)) hb); clear HB; have HB := n0_; clear n0_; (try clear hb); (try clear hb2); (try clear hk); (try clear hi)) | ((with_reducible refine gate_callee (f := 30) rfl ?_); refine goesL_ (some 94) rfl rfl Try.func30 (by kernel_rfl) rfl #[.string t238] rfl (by (try simp only [List.map_toArray, List.map_cons, List.map_nil]); first | done | rfl | (simp only [List.length_drop, List.length_take]; rfl)) ?_; (with_reducible refine (spec_TakeNumber.calls kj30 t238 t239 t240 t241 _ A39.out).mono ?_); rintro e w' ⟨rfl, ⟨nd, rfl⟩⟩; refine ⟨_, rfl, ?_⟩) | ((with_reducible refine gate_callee (f := 27) rfl ?_); refine goesL_ (some 100) rfl rfl Try.func27 (by kernel_rfl) rfl #[.string t238] rfl (by (try simp only [List.map_toArray, List.map_cons, List.map_nil]); first | done | rfl | (simp only [List.length_drop, List.length_take]; rfl)) ?_; (with_reducible refine (impl_TakeNumber.calls kj30 t238 t242 t243 true _ A40.out).mono ?_); rintro e w' ⟨rfl, ⟨nd, rfl⟩⟩; refine ⟨_, rfl, ?_⟩) | (go_at_call 22; (with_reducible refine (impl_PutNumber.calls kj30 t242 t245 _ A43.out).mono ?_); rintro e w46 ⟨rfl, hb⟩; have n0_ := Aside0.mk (below_step (by repeat (first | (with_reducible first | exact HB.out | apply below_alloc | apply pw_below_drewN | apply below_drew1) | exact HB.out)) hb); clear HB; have HB := n0_; clear n0_; (try clear hb); (try clear hb2); (try clear hk); (try clear hi)))
              go_ret
              exact ⟨by first | rfl | (simp [errW_none, errW_some] <;> rfl) | (simp [*, errW_none, errW_some] <;> rfl), by repeat (first | (with_reducible first | exact HB.out | apply below_alloc | apply pw_below_drewN | apply below_drew1) | exact HB.out)⟩
             ·
              rw [if_neg c44] at H
              exact absurd H (by simp)
            ·
             replace c42 := Bool.eq_false_iff.mpr c42
             subst c42
             have H1 : (some true) = some r := by rw [if_neg (show ¬ (false = true) by decide)] at H; exact H
             clear H
             have H := H1
             clear H1
             obtain rfl := Option.some.inj H
             go_wp2_with (first | ((with_reducible refine gate_callee (f := 29) rfl ?_); refine goesL_ (some 91) rfl rfl Try.func29 (by kernel_rfl) rfl #[.slice A1 l1.length c1] rfl (by (try simp only [List.map_toArray, List.map_cons, List.map_nil]); first | done | rfl | (simp only [List.length_drop, List.length_take]; rfl)) ?_; (with_reducible refine (spec_DrawTakeNumber.calls kj30 _ _ l1 t238 _ ?side1 ?side2 A38.out).mono ?_); (case side1 => repeat (first | exact (Kd.C_below HR1.out HB.out) | (with_reducible refine Kd.C_alloc ?_ _) | (with_reducible refine Kd.C_drewN ?_ _) | (with_reducible refine Kd.C_drew ?_))); (case side2 => exact HC1.out); rintro e w47 ⟨rfl, hb⟩; refine ⟨_, rfl, ?_⟩; have n0_ := Aside0.mk (below_step (by repeat (first | (with_reducible first | exact HB.out | apply below_alloc | apply pw_below_drewN | apply below_drew1) | exact HB.out)) hb); clear HB; have HB := n0_; clear n0_; (try clear hb); (try clear hb2); (try clear hk); (try clear hi)) | ((with_reducible refine gate_callee (f := 30) rfl ?_); refine goesL_ (some 94) rfl rfl Try.func30 (by kernel_rfl) rfl #[.string t238] rfl (by (try simp only [List.map_toArray, List.map_cons, List.map_nil]); first | done | rfl | (simp only [List.length_drop, List.length_take]; rfl)) ?_; (with_reducible refine (spec_TakeNumber.calls kj30 t238 t239 t240 t241 _ A39.out).mono ?_); rintro e w' ⟨rfl, ⟨nd, rfl⟩⟩; refine ⟨_, rfl, ?_⟩) | ((with_reducible refine gate_callee (f := 27) rfl ?_); refine goesL_ (some 100) rfl rfl Try.func27 (by kernel_rfl) rfl #[.string t238] rfl (by (try simp only [List.map_toArray, List.map_cons, List.map_nil]); first | done | rfl | (simp only [List.length_drop, List.length_take]; rfl)) ?_; (with_reducible refine (impl_TakeNumber.calls kj30 t238 t242 t243 false _ A40.out).mono ?_); rintro e w' ⟨rfl, ⟨nd, rfl⟩⟩; refine ⟨_, rfl, ?_⟩))
             go_ret
             exact ⟨by first | rfl | (simp [errW_none, errW_some] <;> rfl) | (simp [*, errW_none, errW_some] <;> rfl), by repeat (first | (with_reducible first | exact HB.out | apply below_alloc | apply pw_below_drewN | apply below_drew1) | exact HB.out)⟩
           ·
            rw [if_neg c41] at H
            have c41b0 : (t244 == t241) = false := by simpa using c41
            (try (have c41b1 : decide (t244 = t241) = false := by simpa using c41))
            (try (have c41b2 : (t244 == t241) = false := by simpa using c41))
            (try (have c41b3 : ¬ (t244 = t241) := by simpa using c41))
            clear c41
            obtain rfl := Option.some.inj H
            go_wp2_with (first | ((with_reducible refine gate_callee (f := 29) rfl ?_); refine goesL_ (some 91) rfl rfl Try.func29 (by kernel_rfl) rfl #[.slice A1 l1.length c1] rfl (by (try simp only [List.map_toArray, List.map_cons, List.map_nil]); first | done | rfl | (simp only [List.length_drop, List.length_take]; rfl)) ?_; (with_reducible refine (spec_DrawTakeNumber.calls kj30 _ _ l1 t238 _ ?side1 ?side2 A38.out).mono ?_); (case side1 => repeat (first | exact (Kd.C_below HR1.out HB.out) | (with_reducible refine Kd.C_alloc ?_ _) | (with_reducible refine Kd.C_drewN ?_ _) | (with_reducible refine Kd.C_drew ?_))); (case side2 => exact HC1.out); rintro e w48 ⟨rfl, hb⟩; refine ⟨_, rfl, ?_⟩; have n0_ := Aside0.mk (below_step (by repeat (first | (with_reducible first | exact HB.out | apply below_alloc | apply pw_below_drewN | apply below_drew1) | exact HB.out)) hb); clear HB; have HB := n0_; clear n0_; (try clear hb); (try clear hb2); (try clear hk); (try clear hi)) | ((with_reducible refine gate_callee (f := 30) rfl ?_); refine goesL_ (some 94) rfl rfl Try.func30 (by kernel_rfl) rfl #[.string t238] rfl (by (try simp only [List.map_toArray, List.map_cons, List.map_nil]); first | done | rfl | (simp only [List.length_drop, List.length_take]; rfl)) ?_; (with_reducible refine (spec_TakeNumber.calls kj30 t238 t239 t240 t241 _ A39.out).mono ?_); rintro e w' ⟨rfl, ⟨nd, rfl⟩⟩; refine ⟨_, rfl, ?_⟩) | ((with_reducible refine gate_callee (f := 27) rfl ?_); refine goesL_ (some 100) rfl rfl Try.func27 (by kernel_rfl) rfl #[.string t238] rfl (by (try simp only [List.map_toArray, List.map_cons, List.map_nil]); first | done | rfl | (simp only [List.length_drop, List.length_take]; rfl)) ?_; (with_reducible refine (impl_TakeNumber.calls kj30 t238 t242 t243 t244 _ A40.out).mono ?_); rintro e w' ⟨rfl, ⟨nd, rfl⟩⟩; refine ⟨_, rfl, ?_⟩))
            go_ret
            exact ⟨by first | rfl | (simp [errW_none, errW_some] <;> rfl) | (simp [*, errW_none, errW_some] <;> rfl), by repeat (first | (with_reducible first | exact HB.out | apply below_alloc | apply pw_below_drewN | apply below_drew1) | exact HB.out)⟩

/-- THE ONE PURE STATEMENT of laws_FnNumbers: yours. -/
def laws_FnNumbers.Pure : Prop := ∀ (l0 : List Int) (l1 : List Int), l0.length ≤ maxLen → l0.length * 1 ≤ 140737488351232 → (∀ x ∈ l0, (Lit.int .u8 x).wf = true) → l1.length ≤ maxLen → l1.length * 1 ≤ 140737488351232 → (∀ x ∈ l1, (Lit.int .u8 x).wf = true) → ∃ k, laws_FnNumbers.f k l0 l1 = some true
theorem laws_FnNumbers.walk (P : laws_FnNumbers.Pure) (a0 : Option Addr) (len0 cap0 : Nat) (z0 : List Int) (a1 : Option Addr) (len1 cap1 : Nat) (z1 : List Int) (w : World) (w0 : (a0 = none ∧ len0 = 0 ∧ cap0 = 0 ∧ z0 = []) ∨ ∃ x, a0 = some x ∧ len0 ≤ cap0 ∧ cap0 ≤ maxLen ∧ z0.length = cap0 ∧ (∀ i, i < z0.length → w.cell? (x.add i) = some (.int .u8 (z0.getD i 0))) ∧ ∀ n ∈ z0, (Lit.int .u8 n).wf = true) (y0 : len0 * 1 ≤ 140737488351232) (w1 : (a1 = none ∧ len1 = 0 ∧ cap1 = 0 ∧ z1 = []) ∨ ∃ x, a1 = some x ∧ len1 ≤ cap1 ∧ cap1 ≤ maxLen ∧ z1.length = cap1 ∧ (∀ i, i < z1.length → w.cell? (x.add i) = some (.int .u8 (z1.getD i 0))) ∧ ∀ n ∈ z1, (Lit.int .u8 n).wf = true) (y1 : len1 * 1 ≤ 140737488351232) :
  Calls Try.prog 5 #[.slice a0 len0 cap0, .slice a1 len1 cap1] w fun e w' => e = .returned (.bool true) ∧ Below w.heap.size w w' := by
 obtain ⟨l0, rfl, hr0, hm0, hw0, hc0⟩ := ReadsInt.ofRowC w0
 obtain ⟨l1, rfl, hr1, hm1, hw1, hc1⟩ := ReadsInt.ofRowC w1
 obtain ⟨k, h⟩ := P l0 l1 hm0 y0 hw0 hm1 y1 hw1
 refine (laws_FnNumbers.calls k _ _ l0 _ _ l1 true w (Kd.C_of_reads (d := (0 : Int)) (h1 := fun _ => rfl) hr0) hc0 (Kd.C_of_reads (d := (0 : Int)) (h1 := fun _ => rfl) hr1) hc1 h).mono ?_
 rintro e w' ⟨rfl, hd⟩
 exact ⟨rfl, hd⟩

end Go.Proofs.Ytjcejdajbapliaa.QFnNumbers
