/- Written by wip/myprint.py of this repo (the kit's print, with additions of this session). -/
import Derived.Test.YtoeomljkhabifaaDoorQFnExactNodeOfx0
import Derived.Test.YtoeomljkhabifaaDoorQFnExactNodeOfx1
import Derived.Test.YtoeomljkhabifaaDoorQFnExactNodeOfx5
import Derived.Test.YtoeomljkhabifaaDoorQFnExactNodeOfx8
set_option maxRecDepth 100000
namespace Go.Proofs.YtoeomljkhabifaaDoor.QFnExactNodeOf
open Go.RowKit Go.Proofs.YtoeomljkhabifaaDoorW.PrintWords Go.Proofs.YtoeomljkhabifaaDoorW.PrintLast Go.Proofs.YtoeomljkhabifaaDoorW.PrintMore
attribute [local go_sem] max2_int min2_int max_two min_two max_three min_three max_four min_four   -- for this text's walks alone
set_option linter.unusedVariables false
set_option linter.unusedSimpArgs false

/-! ### laws_FnExactNodeOf: function 3 -/
def laws_FnExactNodeOf.j0 : Nat → List ByteArray → List ByteArray → Bool → Option (Bool)
 | 0, _, _, _ => none
 | k + 1, x0, x8, x41 => if x41 = true then (some false) else ((laws_toStringS.f k x0).bind fun t301 => ((laws_eqStringS.f k x8 t301).bind fun t304 => (if t304 = true then (some true) else (some false))))
def laws_FnExactNodeOf.f (k : Nat) (l0 : List ByteArray) (a1 : ByteArray) : Option (Bool) := if (a1.size : Int) > 1048576 then (some true) else ((laws_szStringS.f k l0 1048576).bind fun t290 => (if t290 < 0 then (some true) else ((laws_toStringS.f k l0).bind fun t291 => ((spec_NodeOf.f k t291 a1).bind fun bt294 => ((laws_toStringS.f k l0).bind fun t296 => ((impl_NodeOf.f k t296 a1).bind fun bt299 => (if bt299.1.toList = bt294.1.toList then (laws_FnExactNodeOf.j0 k l0 t296 (bt299.2 != bt294.2)) else (laws_FnExactNodeOf.j0 k l0 t296 true))))))))
theorem laws_FnExactNodeOf.mono_l : ∀ k, (∀ y0 y1 y2, LeO (laws_FnExactNodeOf.j0 k y0 y1 y2) (laws_FnExactNodeOf.j0 (k + 1) y0 y1 y2))
 | 0 => fun _ _ _ r h => by simp [laws_FnExactNodeOf.j0] at h
 | k + 1 => by
  have ih0 := laws_FnExactNodeOf.mono_l k
  ·
   intro y0 y1 y2; unfold laws_FnExactNodeOf.j0
   repeat' first
   | (with_reducible apply ih0)
   | (with_reducible apply impl_NodeOf.mono)
   | (with_reducible apply laws_eqStringS.mono)
   | (with_reducible apply laws_szStringS.mono)
   | (with_reducible apply laws_toStringS.mono)
   | (with_reducible apply spec_NodeOf.mono)
   | (with_reducible exact LeO.refl _)
   | (with_reducible exact LeO.none _)
   | (with_reducible refine LeO.ite ?_ ?_)
   | (with_reducible refine LeO.bind ?_ (fun _ => ?_))
   | exact LeO.none _
   | refine LeO.ite ?_ ?_
   | refine LeO.bind ?_ (fun _ => ?_)
theorem laws_FnExactNodeOf.mono : ∀ a0 a1 k, LeO (laws_FnExactNodeOf.f k a0 a1) (laws_FnExactNodeOf.f (k + 1) a0 a1) := by
 intro a0 a1 k; have ih0 := laws_FnExactNodeOf.mono_l k; unfold laws_FnExactNodeOf.f
 repeat' first
   | (with_reducible apply ih0)
   | (with_reducible apply impl_NodeOf.mono)
   | (with_reducible apply laws_eqStringS.mono)
   | (with_reducible apply laws_szStringS.mono)
   | (with_reducible apply laws_toStringS.mono)
   | (with_reducible apply spec_NodeOf.mono)
   | (with_reducible exact LeO.refl _)
   | (with_reducible exact LeO.none _)
   | (with_reducible refine LeO.ite ?_ ?_)
   | (with_reducible refine LeO.bind ?_ (fun _ => ?_))
   | exact LeO.none _
   | refine LeO.ite ?_ ?_
   | refine LeO.bind ?_ (fun _ => ?_)
set_option maxHeartbeats 8000000 in
set_option maxRecDepth 100000 in
theorem laws_FnExactNodeOf.calls (k : Nat) (A0 : Option Addr) (c0 : Nat) (l0 : List ByteArray) (a1 : ByteArray) (r : Bool) (w : World) (hr0 : Kd.C Kd.string w A0 l0.length l0) (hc0 : l0.length ≤ c0) (h : laws_FnExactNodeOf.f k l0 a1 = some r) :
  Calls Tryd.prog 3 #[.slice A0 l0.length c0, .string a1] w fun e w' => e = .returned (.bool r) ∧ Below w.heap.size w w' := by
 have HR0 := aM hr0; have HC0 := aM hc0; clear hr0 hc0; have HB := aM (Below.refl w.heap.size w); unfold laws_FnExactNodeOf.f at h; have H := h; clear h; by_cases c3 : (a1.size : Int) > 1048576
 ·
  rw [if_pos c3] at H; have c3b0 : decide (1048576 < (a1.size : Int)) = true := decide_eq_true c3; have c3b1 : decide (1048576 < a1.size) = true := decide_eq_true (by omega); clear c3; obtain rfl := Option.some.inj H; go_enter Tryd.func3, Tryd.ntmps3; go_wp2; go_ret; exact ⟨zq14, zq11⟩
 rw [if_neg c3] at H; have c3b0 : decide (1048576 < (a1.size : Int)) = false := decide_eq_false c3; have c3b1 : decide (1048576 < a1.size) = false := decide_eq_false (by omega); clear c3; replace H := Option.bind_eq_some_iff.mp H; obtain ⟨t290, A40, H⟩ := H; (try dsimp only at H); have A4 := aM A40; clear A40; by_cases c5 : t290 < 0
 ·
  rw [if_pos c5] at H; have c5b0 := decide_eq_true c5; clear c5; obtain rfl := Option.some.inj H; go_enter Tryd.func3, Tryd.ntmps3
  go_wp2_with (first | ((with_reducible refine gC 6 rfl ?_); refine gL 16 Tryd.func6 #[.slice A0 l0.length c0, .int .i64 1048576] ?_; (with_reducible refine (laws_szStringS.calls k _ _ l0 1048576 t290 _ ?_ ?_ A4.out).mono ?_); exact zq7; exact zq8; rintro e w' ⟨rfl, ⟨nd, rfl⟩⟩; refine ⟨_, rfl, ?_⟩))
  go_ret; exact ⟨zq14, zq11⟩
 rw [if_neg c5] at H; have c5b0 := decide_eq_false c5; clear c5; replace H := Option.bind_eq_some_iff.mp H; obtain ⟨t291, A60, H⟩ := H; (try dsimp only at H); have A6 := aM A60; clear A60; replace H := Option.bind_eq_some_iff.mp H; obtain ⟨⟨t294, t295⟩, A70, H⟩ := H; (try dsimp only at H); have A7 := aM A70; clear A70; replace H := Option.bind_eq_some_iff.mp H; obtain ⟨t296, A80, H⟩ := H; (try dsimp only at H); have A8 := aM A80; clear A80; replace H := Option.bind_eq_some_iff.mp H; obtain ⟨⟨t299, t300⟩, A90, H⟩ := H; (try dsimp only at H); have A9 := aM A90; clear A90; have HC10 := aM H; clear H; go_enter Tryd.func3, Tryd.ntmps3
 go_upto_region 10 with (first | ((with_reducible refine gC 6 rfl ?_); refine gL 16 Tryd.func6 #[.slice A0 l0.length c0, .int .i64 1048576] ?_; (with_reducible refine (laws_szStringS.calls k _ _ l0 1048576 t290 _ ?_ ?_ A4.out).mono ?_); exact zq7; exact zq8; rintro e w' ⟨rfl, ⟨nd, rfl⟩⟩; refine ⟨_, rfl, ?_⟩) | ((with_reducible refine gC 8 rfl ?_); refine gL 21 Tryd.func8 #[.slice A0 l0.length c0] ?_; (with_reducible refine (laws_toStringS.calls k _ _ l0 t291 _ ?_ ?_ A6.out).mono ?_); exact zq7; exact zq8; rintro e w11 ⟨v292, rfl, ho0, hb⟩; refine ⟨_, rfl, ?_⟩; have HO293 := aM (Kd.R_lower ho0 (below_size zq11)); replace HB := sB zq11 hb; clear hb; (try clear ho0); obtain ⟨Ao12, co12, eo12⟩ := Kd.R_slice HO293.out; subst eo12) | ((with_reducible refine gC 7 rfl ?_); refine gL 23 Tryd.func7 #[.slice Ao12 t291.length co12, .string a1] ?_; (with_reducible refine (spec_NodeOf.calls k _ _ t291 a1 t294 t295 _ ?side1 ?_ A7.out).mono ?_); (case side1 => repeat (first | exact (Kd.R_reads' HO293.out).2.2 | (with_reducible refine Kd.C_alloc ?_ _) | (with_reducible refine Kd.C_drewN ?_ _) | (with_reducible refine Kd.C_drew ?_))); exact (Kd.R_reads' HO293.out).2.1; rintro e w13 ⟨rfl, hb⟩; refine ⟨_, rfl, ?_⟩; replace HO293 := rG HO293 hb; replace HB := sB zq11 hb; clear hb) | ((with_reducible refine gC 8 rfl ?_); refine gL 27 Tryd.func8 #[.slice A0 l0.length c0] ?_; (with_reducible refine (laws_toStringS.calls k _ _ l0 t296 _ ?_ ?_ A8.out).mono ?_); exact zq21; exact zq8; rintro e w14 ⟨v297, rfl, ho0, hb⟩; refine ⟨_, rfl, ?_⟩; have HO298 := aM (Kd.R_lower (Kd.R_new' ho0 (Kd.R_lt zq46)) (below_size zq11)); replace HO293 := aM (Kd.R_elder' zq46 (Kd.R_base ho0) hb); replace HB := sB zq11 hb; clear hb; (try clear ho0); obtain ⟨Ao15, co15, eo15⟩ := Kd.R_slice HO298.out; subst eo15) | ((with_reducible refine gC 9 rfl ?_); refine gL 31 Tryd.func9 #[.slice Ao15 t296.length co15, .string a1] ?_; (with_reducible refine (impl_NodeOf.calls k _ _ t296 a1 t299 t300 _ ?side1 ?_ A9.out).mono ?_); (case side1 => repeat (first | exact (Kd.R_reads' HO298.out).2.2 | (with_reducible refine Kd.C_alloc ?_ _) | (with_reducible refine Kd.C_drewN ?_ _) | (with_reducible refine Kd.C_drew ?_))); exact (Kd.R_reads' HO298.out).2.1; rintro e w16 ⟨rfl, hb⟩; refine ⟨_, rfl, ?_⟩; replace HO293 := rG HO293 hb; replace HO298 := rB (by refine dR ?_; exact HO298.out) hb; replace HB := sB zq11 hb; clear hb))
 (try simp only [Act.put, List.setIfInBounds_toArray, List.set_cons_zero, List.set_cons_succ])
 go_cut [41] (fun v41 wc => ∃ (kq : Nat) (x41_9 : Bool), v41 = .bool x41_9 ∧ Aside0 (laws_FnExactNodeOf.j0 kq l0 t296 x41_9 = some r) ∧ Aside0 (kq ≤ k) ∧ Aside0 (Kd.R Kd.string 9 wc w.heap.size (fun _ => True) (.slice Ao15 t296.length co15) t296) ∧ Aside0 (Below w.heap.size w wc))
 case first =>
  have H := HC10.out; clear HC10; by_cases c17 : t299.toList = t294.toList
  ·
   rw [if_pos c17] at H; have c17b0 : (t299.toList == t294.toList) = true := beq_iff_eq.mpr c17; have c17b1 : (t299.toList != t294.toList) = false := bne_eq_false_iff_eq.mpr c17; clear c17
   (first | rw [c17b0] | (simp only [i64_w, i32_w]; rw [c17b0]) | skip)
   have H' := aM H; clear H; go_wp2
   go_meet
   case rel => exact ⟨_, ((t300 != t295)), zq1, H', ⟨zq6⟩, ⟨zq47⟩, ⟨zq11⟩⟩
  rw [if_neg c17] at H; have c17b0 : (t299.toList == t294.toList) = false := beq_eq_false_iff_ne.mpr c17; have c17b1 : (t299.toList != t294.toList) = true := bne_iff_ne.mpr c17
  (first | rw [c17b0] | (simp only [i64_w, i32_w]; rw [c17b0]) | skip)
  have H' := aM H; clear H; go_wp2
  go_meet
  case rel => exact ⟨_, (true), zq1, H', ⟨zq6⟩, ⟨zq47⟩, ⟨zq11⟩⟩
 case rest =>
  clear HC10; (try clear c1); (try clear p2); (try clear c3); (try clear c3b0); (try clear c3b1); (try clear c5); (try clear c5b0); (try clear c6); (try clear c7); (try clear c8); (try clear c9); (try clear c17); (try clear c17b0); (try clear c17b1); obtain ⟨kq, x41_9, rfl, HA, HJ9, HO_8, HB⟩ := hcut
  cases kq with
  | zero => exact absurd HA.out (by simp [laws_FnExactNodeOf.j0])
  | succ kj9 =>
   have H := HA.out; clear HA; simp only [laws_FnExactNodeOf.j0] at H; by_cases c18 : x41_9 = true
   ·
    subst c18; rw [if_pos rfl] at H; obtain rfl := Option.some.inj H; go_wp2; go_ret; exact ⟨zq14, zq11⟩
   replace c18 := Bool.eq_false_iff.mpr c18; subst c18; rw [if_neg (show ¬ (false = true) by decide)] at H; replace H := Option.bind_eq_some_iff.mp H; obtain ⟨t301, A190, H⟩ := H; (try dsimp only at H); have A19 := aM A190; clear A190; replace H := Option.bind_eq_some_iff.mp H; obtain ⟨t304, A200, H⟩ := H; (try dsimp only at H); have A20 := aM A200; clear A200; by_cases c21 : t304 = true
   ·
    subst c21; rw [if_pos rfl] at H; obtain rfl := Option.some.inj H
    go_wp2_with (first | ((with_reducible refine gC 8 rfl ?_); refine gL 44 Tryd.func8 #[.slice A0 l0.length c0] ?_; (with_reducible refine (laws_toStringS.calls kj9 _ _ l0 t301 _ ?_ ?_ A19.out).mono ?_); exact zq21; exact zq8; rintro e w22 ⟨v302, rfl, ho0, hb⟩; refine ⟨_, rfl, ?_⟩; have HO303 := aM (Kd.R_lower (Kd.R_new' ho0 (Kd.R_lt zq31)) (below_size zq11)); replace HO_8 := aM (Kd.R_elder' zq31 (Kd.R_base ho0) hb); replace HB := sB zq11 hb; clear hb; (try clear ho0); obtain ⟨Ao23, co23, eo23⟩ := Kd.R_slice HO303.out; subst eo23) | ((with_reducible refine gC 10 rfl ?_); refine gL 45 Tryd.func10 #[.slice Ao15 t296.length co15, .slice Ao23 t301.length co23] ?_; (with_reducible refine (laws_eqStringS.calls kj9 _ _ t296 _ _ t301 true _ ?_ ?_ ?_ ?_ A20.out).mono ?_); exact zq48; exact (Kd.R_reads' HO_8.out).2.1; exact zq49; exact (Kd.R_reads' HO303.out).2.1; rintro e w' ⟨rfl, ⟨nd, rfl⟩⟩; refine ⟨_, rfl, ?_⟩))
    go_ret; exact ⟨zq14, zq11⟩
   replace c21 := Bool.eq_false_iff.mpr c21; subst c21; rw [if_neg (show ¬ (false = true) by decide)] at H; obtain rfl := Option.some.inj H
   go_wp2_with (first | ((with_reducible refine gC 8 rfl ?_); refine gL 44 Tryd.func8 #[.slice A0 l0.length c0] ?_; (with_reducible refine (laws_toStringS.calls kj9 _ _ l0 t301 _ ?_ ?_ A19.out).mono ?_); exact zq21; exact zq8; rintro e w24 ⟨v302, rfl, ho0, hb⟩; refine ⟨_, rfl, ?_⟩; have HO303 := aM (Kd.R_lower (Kd.R_new' ho0 (Kd.R_lt zq31)) (below_size zq11)); replace HO_8 := aM (Kd.R_elder' zq31 (Kd.R_base ho0) hb); replace HB := sB zq11 hb; clear hb; (try clear ho0); obtain ⟨Ao25, co25, eo25⟩ := Kd.R_slice HO303.out; subst eo25) | ((with_reducible refine gC 10 rfl ?_); refine gL 45 Tryd.func10 #[.slice Ao15 t296.length co15, .slice Ao25 t301.length co25] ?_; (with_reducible refine (laws_eqStringS.calls kj9 _ _ t296 _ _ t301 false _ ?_ ?_ ?_ ?_ A20.out).mono ?_); exact zq48; exact (Kd.R_reads' HO_8.out).2.1; exact zq49; exact (Kd.R_reads' HO303.out).2.1; rintro e w' ⟨rfl, ⟨nd, rfl⟩⟩; refine ⟨_, rfl, ?_⟩))
   go_ret; exact ⟨zq14, zq11⟩

/-- THE ONE PURE STATEMENT of laws_FnExactNodeOf. -/
def laws_FnExactNodeOf.Pure : Prop := ∀ (l0 : List ByteArray) (a1 : ByteArray), (l0.length ≤ maxLen ∧ ∀ y0_ ∈ l0, y0_.size ≤ maxLen) → a1.size ≤ 140737488351232 → ∃ k, laws_FnExactNodeOf.f k l0 a1 = some true

end Go.Proofs.YtoeomljkhabifaaDoor.QFnExactNodeOf
