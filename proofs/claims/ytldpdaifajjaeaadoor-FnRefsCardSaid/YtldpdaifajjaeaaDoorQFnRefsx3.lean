/- Written by wip/myprint.py of this repo (the kit's print, with additions of this session). -/
import Derived.Test.YtldpdaifajjaeaaDoorQFnRefsx0
import Derived.Test.YtldpdaifajjaeaaDoorQFnRefsx2
set_option maxRecDepth 100000
namespace Go.Proofs.YtldpdaifajjaeaaDoor.QFnRefs
open Go.RowKit Go.Proofs.YtldpdaifajjaeaaDoorW.PrintWords Go.Proofs.YtldpdaifajjaeaaDoorW.PrintLast Go.Proofs.YtldpdaifajjaeaaDoorW.PrintMore
attribute [local go_sem] max2_int min2_int max_two min_two max_three min_three max_four min_four   -- for this text's walks alone
set_option linter.unusedVariables false
set_option linter.unusedSimpArgs false

/-! ### spec_l3Low: function 47 -/
def spec_l3Low.f (a0 : Int) : Option (Bool) := (spec_l1Digit.f a0).bind fun t119 => (if t119 = true then (some true) else (if a0 ≥ 97 then (some (decide (a0 ≤ 122))) else (some false)))
set_option maxHeartbeats 8000000 in
set_option maxRecDepth 100000 in
theorem spec_l3Low.calls (a0 : Int) (r : Bool) (w : World) (h : spec_l3Low.f a0 = some r) :
  Calls Tryd.prog 47 #[.int .u8 a0] w fun e w' => e = .returned (.bool r) ∧ Drawn0 w w' := by
 unfold spec_l3Low.f at h; have H := h; clear h; replace H := Option.bind_eq_some_iff.mp H; obtain ⟨t119, A20, H⟩ := H; (try dsimp only at H); have A2 := aM A20; clear A20; by_cases c3 : t119 = true
 ·
  subst c3; rw [if_pos rfl] at H; obtain rfl := Option.some.inj H; go_enter Tryd.func47, Tryd.ntmps47
  go_wp2_with (first | ((with_reducible refine gC 67 rfl ?_); refine gL 4 Tryd.func67 #[.int .u8 a0] ?_; (with_reducible refine (spec_l1Digit.calls a0 true _ A2.out).mono ?_); rintro e w' ⟨rfl, ⟨nd, rfl⟩⟩; refine ⟨_, rfl, ?_⟩))
  go_ret; exact ⟨zq6, zq20⟩
 replace c3 := Bool.eq_false_iff.mpr c3; subst c3; rw [if_neg (show ¬ (false = true) by decide)] at H; by_cases c4 : a0 ≥ 97
 ·
  rw [if_pos c4] at H; have c4b0 : decide (97 ≤ a0) = true := decide_eq_true c4; clear c4; obtain rfl := Option.some.inj H; go_enter Tryd.func47, Tryd.ntmps47
  go_wp2_with (first | ((with_reducible refine gC 67 rfl ?_); refine gL 4 Tryd.func67 #[.int .u8 a0] ?_; (with_reducible refine (spec_l1Digit.calls a0 false _ A2.out).mono ?_); rintro e w' ⟨rfl, ⟨nd, rfl⟩⟩; refine ⟨_, rfl, ?_⟩))
  go_ret; exact ⟨zq6, zq20⟩
 rw [if_neg c4] at H; have c4b0 : decide (97 ≤ a0) = false := decide_eq_false c4; clear c4; obtain rfl := Option.some.inj H; go_enter Tryd.func47, Tryd.ntmps47
 go_wp2_with (first | ((with_reducible refine gC 67 rfl ?_); refine gL 4 Tryd.func67 #[.int .u8 a0] ?_; (with_reducible refine (spec_l1Digit.calls a0 false _ A2.out).mono ?_); rintro e w' ⟨rfl, ⟨nd, rfl⟩⟩; refine ⟨_, rfl, ?_⟩))
 go_ret; exact ⟨zq6, zq20⟩

/-! ### spec_l3Mark: function 48 -/
mutual
def spec_l3Mark.j0 : Nat → ByteArray → Bool → Option (Bool)
 | 0, _, _ => none
 | k + 1, x0, x13 => if x13 = true then (some true) else (spec_l3Mark.l0 k x0 0)
def spec_l3Mark.l0 : Nat → ByteArray → Int → Option (Bool)
 | 0, _, _ => none
 | k + 1, x0, x3 => if x3 < (x0.size : Int) then (if 0 ≤ x3 then (if (bt x0 x3) = 45 then (spec_l3Mark.l0 k x0 (wrap64 (x3 + 1))) else (some false)) else (none)) else (some (decide ((x0.size : Int) > 0)))
end
def spec_l3Mark.f (k : Nat) (a0 : ByteArray) : Option (Bool) := if a0.toList = ([46] : List UInt8) then (spec_l3Mark.j0 k a0 true) else (if a0.toList = ([95] : List UInt8) then (spec_l3Mark.j0 k a0 true) else (spec_l3Mark.j0 k a0 (a0.toList == ([95, 95] : List UInt8))))
theorem spec_l3Mark.mono_l : ∀ k, (∀ y0 y1, LeO (spec_l3Mark.j0 k y0 y1) (spec_l3Mark.j0 (k + 1) y0 y1)) ∧ (∀ y0 y1, LeO (spec_l3Mark.l0 k y0 y1) (spec_l3Mark.l0 (k + 1) y0 y1))
 | 0 => ⟨fun _ _ r h => by simp [spec_l3Mark.j0] at h, fun _ _ r h => by simp [spec_l3Mark.l0] at h⟩
 | k + 1 => by
  obtain ⟨ih0, ih1⟩ := spec_l3Mark.mono_l k; refine ⟨?_, ?_⟩
  ·
   intro y0 y1; unfold spec_l3Mark.j0
   repeat' first
   | (with_reducible apply ih0)
   | (with_reducible apply ih1)
   | (with_reducible exact LeO.refl _)
   | (with_reducible exact LeO.none _)
   | (with_reducible refine LeO.ite ?_ ?_)
   | (with_reducible refine LeO.bind ?_ (fun _ => ?_))
   | exact LeO.none _
   | refine LeO.ite ?_ ?_
   | refine LeO.bind ?_ (fun _ => ?_)
  intro y0 y1; unfold spec_l3Mark.l0
  repeat' first
  | (with_reducible apply ih0)
  | (with_reducible apply ih1)
  | (with_reducible exact LeO.refl _)
  | (with_reducible exact LeO.none _)
  | (with_reducible refine LeO.ite ?_ ?_)
  | (with_reducible refine LeO.bind ?_ (fun _ => ?_))
  | exact LeO.none _
  | refine LeO.ite ?_ ?_
  | refine LeO.bind ?_ (fun _ => ?_)
theorem spec_l3Mark.mono : ∀ a0 k, LeO (spec_l3Mark.f k a0) (spec_l3Mark.f (k + 1) a0) := by
 intro a0 k; obtain ⟨ih0, ih1⟩ := spec_l3Mark.mono_l k; unfold spec_l3Mark.f
 repeat' first
   | (with_reducible apply ih0)
   | (with_reducible apply ih1)
   | (with_reducible exact LeO.refl _)
   | (with_reducible exact LeO.none _)
   | (with_reducible refine LeO.ite ?_ ?_)
   | (with_reducible refine LeO.bind ?_ (fun _ => ?_))
   | exact LeO.none _
   | refine LeO.ite ?_ ?_
   | refine LeO.bind ?_ (fun _ => ?_)
set_option maxHeartbeats 8000000 in
set_option maxRecDepth 100000 in
theorem spec_l3Mark.calls (k : Nat) (a0 : ByteArray) (r : Bool) (w : World) (h : spec_l3Mark.f k a0 = some r) :
  Calls Tryd.prog 48 #[.string a0] w fun e w' => e = .returned (.bool r) ∧ Drawn0 w w' := by
 unfold spec_l3Mark.f at h; have H := h; clear h; have HC2 := aM H; clear H; go_enter Tryd.func48, Tryd.ntmps48
 go_upto_region 1 with (fail)
 go_cut [13] (fun v13 wc => ∃ (kq : Nat) (x13_1 : Bool), v13 = .bool x13_1 ∧ Aside0 (spec_l3Mark.j0 kq a0 x13_1 = some r) ∧ Aside0 (kq ≤ k) ∧ Drawn0 w wc)
 case first =>
  have H := HC2.out; clear HC2; by_cases c3 : a0.toList = ([46] : List UInt8)
  ·
   rw [if_pos c3] at H; have c3b0 : (a0.toList == ([46] : List UInt8)) = true := beq_iff_eq.mpr c3; have c3b1 : (a0.toList != ([46] : List UInt8)) = false := bne_eq_false_iff_eq.mpr c3; clear c3
   (first | rw [c3b0] | (simp only [i64_w, i32_w]; rw [c3b0]) | skip)
   have H' := aM H; clear H; go_wp2
   go_meet
   case rel => exact ⟨_, (true), zq6, H', ⟨zq7⟩, zq20⟩
  rw [if_neg c3] at H; have c3b0 : (a0.toList == ([46] : List UInt8)) = false := beq_eq_false_iff_ne.mpr c3; have c3b1 : (a0.toList != ([46] : List UInt8)) = true := bne_iff_ne.mpr c3
  (first | rw [c3b0] | (simp only [i64_w, i32_w]; rw [c3b0]) | skip)
  by_cases c4 : a0.toList = ([95] : List UInt8)
  ·
   rw [if_pos c4] at H; have c4b0 : (a0.toList == ([95] : List UInt8)) = true := beq_iff_eq.mpr c4; have c4b1 : (a0.toList != ([95] : List UInt8)) = false := bne_eq_false_iff_eq.mpr c4; clear c4; have H' := aM H; clear H; go_wp2
   go_meet
   case rel => exact ⟨_, (true), zq6, H', ⟨zq7⟩, zq20⟩
  rw [if_neg c4] at H; have c4b0 : (a0.toList == ([95] : List UInt8)) = false := beq_eq_false_iff_ne.mpr c4; have c4b1 : (a0.toList != ([95] : List UInt8)) = true := bne_iff_ne.mpr c4; have H' := aM H; clear H; go_wp2
  go_meet
  case rel => exact ⟨_, ((a0.toList == ([95, 95] : List UInt8))), zq6, H', ⟨zq7⟩, zq20⟩
 case rest =>
  clear HC2; (try clear p2); (try clear c3); (try clear c3b0); (try clear c3b1); (try clear c4); (try clear c4b0); (try clear c4b1); obtain ⟨kq, x13_1, rfl, HA, HJ1, ⟨mc1, rfl⟩⟩ := hcut
  cases kq with
  | zero => exact absurd HA.out (by simp [spec_l3Mark.j0])
  | succ kj1 =>
   have H := HA.out; clear HA; simp only [spec_l3Mark.j0] at H; by_cases c5 : x13_1 = true
   ·
    subst c5; rw [if_pos rfl] at H; obtain rfl := Option.some.inj H; go_wp2; go_ret; exact ⟨zq6, zq20⟩
   replace c5 := Bool.eq_false_iff.mpr c5; subst c5; rw [if_neg (show ¬ (false = true) by decide)] at H; have H' := aM H; clear H; go_wp2
   go_loopg [3] kj1 (fun kq v3 w' => ∃ (x3_2 : Int), v3 = .int .i64 x3_2 ∧ Aside0 (spec_l3Mark.l0 kq a0 x3_2 = some r) ∧ Aside0 (kq ≤ kj1) ∧ Drawn0 w w')
   case atStart => exact ⟨(0), zq6, H', ⟨Nat.le_refl _⟩, zq20⟩
   case round =>
    clear H'; (try clear c1); (try clear p2); (try clear c3); (try clear c3b0); (try clear c3b1); (try clear c4); (try clear c4b0); (try clear c4b1); (try clear c5); (try clear p2); obtain ⟨x3_2, rfl, HA, HK2, ⟨m2, rfl⟩⟩ := hrel
    cases gk with
    | zero => exact absurd HA.out (by simp [spec_l3Mark.l0])
    | succ k2 =>
     have H := HA.out; clear HA; simp only [spec_l3Mark.l0] at H; by_cases c6 : x3_2 < (a0.size : Int)
     ·
      rw [if_pos c6] at H; have c6b0 := decide_eq_true c6; clear c6; by_cases c7 : 0 ≤ x3_2
      ·
       rw [if_pos c7] at H; have c7b0 := decide_eq_true c7; clear c7; by_cases c9 : (bt a0 x3_2) = 45
       ·
        rw [if_pos c9] at H; have c9b0 : ((bt a0 x3_2) == 45) = true := beq_iff_eq.mpr c9; have c9b1 : ((bt a0 x3_2) != 45) = false := bne_eq_false_iff_eq.mpr c9; clear c9; have H' := aM H; clear H; have p8 : 0 ≤ (x3_2 : Int) := of_decide_eq_true zq11; have q8 : x3_2 < (a0.size : Int) := of_decide_eq_true zq11; have hx8 := bt_at a0 x3_2; replace p8 := eq_true p8; replace q8 := eq_true q8; go_wp2
        go_roundg k2
        case measure => have := HJ1.out; have := HK2.out; omega
        case rel => exact ⟨(wrap64 (x3_2 + 1)), zq6, H', ⟨zq78⟩, zq20⟩
       rw [if_neg c9] at H; have c9b0 : ((bt a0 x3_2) == 45) = false := beq_eq_false_iff_ne.mpr c9; have c9b1 : ((bt a0 x3_2) != 45) = true := bne_iff_ne.mpr c9; obtain rfl := Option.some.inj H; have p8 : 0 ≤ (x3_2 : Int) := of_decide_eq_true zq11; have q8 : x3_2 < (a0.size : Int) := of_decide_eq_true zq11; have hx8 := bt_at a0 x3_2; replace p8 := eq_true p8; replace q8 := eq_true q8; go_wp2; go_ret; exact ⟨zq6, zq20⟩
      exact zq126
     rw [if_neg c6] at H; have c6b0 := decide_eq_false c6; clear c6; obtain rfl := Option.some.inj H; go_wp2; go_ret; exact ⟨zq6, zq20⟩

/-! ### spec_l3Part: function 27 -/
mutual
def spec_l3Part.j0 : Nat → ByteArray → Bool → Option (Bool)
 | 0, _, _ => none
 | k + 1, x0, x21 => if x21 = true then (some false) else (spec_l3Part.l0 k x0 0)
def spec_l3Part.l0 : Nat → ByteArray → Int → Option (Bool)
 | 0, _, _ => none
 | k + 1, x0, x3 => if x3 < (x0.size : Int) then (spec_l3Part.l1 k x0 x3 x3) else (some true)
def spec_l3Part.l1 : Nat → ByteArray → Int → Int → Option (Bool)
 | 0, _, _, _ => none
 | k + 1, x0, x3, x4 => if x4 < (x0.size : Int) then (if 0 ≤ x4 then ((spec_l3Low.f (bt x0 x4)).bind fun t122 => (if t122 = true then (if x4 > x3 then (if 0 ≤ x3 then (if x3 ≤ x4 then (if x4 ≤ (x0.size : Int) then ((spec_l3Mark.f k (x0.extract (x3 : Int).toNat (x4 : Int).toNat)).bind fun t123 => (if t123 = true then (spec_l3Part.l0 k x0 (wrap64 (x4 + 1))) else (some false))) else (none)) else (none)) else (none)) else (spec_l3Part.l0 k x0 (wrap64 (x4 + 1)))) else (spec_l3Part.l1 k x0 x3 (wrap64 (x4 + 1))))) else (none)) else (if x4 > x3 then (if 0 ≤ x3 then (if x3 ≤ x4 then (if x4 ≤ (x0.size : Int) then ((spec_l3Mark.f k (x0.extract (x3 : Int).toNat (x4 : Int).toNat)).bind fun t124 => (if t124 = true then (spec_l3Part.l0 k x0 (wrap64 (x4 + 1))) else (some false))) else (none)) else (none)) else (none)) else (spec_l3Part.l0 k x0 (wrap64 (x4 + 1))))
end
def spec_l3Part.f (k : Nat) (a0 : ByteArray) : Option (Bool) := if a0.toList = ([] : List UInt8) then (spec_l3Part.j0 k a0 true) else (if 0 < (a0.size : Int) then ((spec_l3Low.f (bt a0 0)).bind fun t120 => (if t120 = true then (if 0 ≤ (wrap64 ((a0.size : Int) - 1)) then (if (wrap64 ((a0.size : Int) - 1)) < (a0.size : Int) then ((spec_l3Low.f (bt a0 (wrap64 ((a0.size : Int) - 1)))).bind fun t121 => (spec_l3Part.j0 k a0 (!t121))) else (none)) else (none)) else (spec_l3Part.j0 k a0 true))) else (none))
theorem spec_l3Part.mono_l : ∀ k, (∀ y0 y1, LeO (spec_l3Part.j0 k y0 y1) (spec_l3Part.j0 (k + 1) y0 y1)) ∧ (∀ y0 y1, LeO (spec_l3Part.l0 k y0 y1) (spec_l3Part.l0 (k + 1) y0 y1)) ∧ (∀ y0 y1 y2, LeO (spec_l3Part.l1 k y0 y1 y2) (spec_l3Part.l1 (k + 1) y0 y1 y2))
 | 0 => ⟨fun _ _ r h => by simp [spec_l3Part.j0] at h, fun _ _ r h => by simp [spec_l3Part.l0] at h, fun _ _ _ r h => by simp [spec_l3Part.l1] at h⟩
 | k + 1 => by
  obtain ⟨ih0, ih1, ih2⟩ := spec_l3Part.mono_l k; refine ⟨?_, ?_, ?_⟩
  ·
   intro y0 y1; unfold spec_l3Part.j0
   repeat' first
   | (with_reducible apply ih0)
   | (with_reducible apply ih1)
   | (with_reducible apply ih2)
   | (with_reducible apply spec_l3Mark.mono)
   | (with_reducible exact LeO.refl _)
   | (with_reducible exact LeO.none _)
   | (with_reducible refine LeO.ite ?_ ?_)
   | (with_reducible refine LeO.bind ?_ (fun _ => ?_))
   | exact LeO.none _
   | refine LeO.ite ?_ ?_
   | refine LeO.bind ?_ (fun _ => ?_)
  ·
   intro y0 y1; unfold spec_l3Part.l0
   repeat' first
   | (with_reducible apply ih0)
   | (with_reducible apply ih1)
   | (with_reducible apply ih2)
   | (with_reducible apply spec_l3Mark.mono)
   | (with_reducible exact LeO.refl _)
   | (with_reducible exact LeO.none _)
   | (with_reducible refine LeO.ite ?_ ?_)
   | (with_reducible refine LeO.bind ?_ (fun _ => ?_))
   | exact LeO.none _
   | refine LeO.ite ?_ ?_
   | refine LeO.bind ?_ (fun _ => ?_)
  intro y0 y1 y2; unfold spec_l3Part.l1
  repeat' first
  | (with_reducible apply ih0)
  | (with_reducible apply ih1)
  | (with_reducible apply ih2)
  | (with_reducible apply spec_l3Mark.mono)
  | (with_reducible exact LeO.refl _)
  | (with_reducible exact LeO.none _)
  | (with_reducible refine LeO.ite ?_ ?_)
  | (with_reducible refine LeO.bind ?_ (fun _ => ?_))
  | exact LeO.none _
  | refine LeO.ite ?_ ?_
  | refine LeO.bind ?_ (fun _ => ?_)
theorem spec_l3Part.mono : ∀ a0 k, LeO (spec_l3Part.f k a0) (spec_l3Part.f (k + 1) a0) := by
 intro a0 k; obtain ⟨ih0, ih1, ih2⟩ := spec_l3Part.mono_l k; unfold spec_l3Part.f
 repeat' first
   | (with_reducible apply ih0)
   | (with_reducible apply ih1)
   | (with_reducible apply ih2)
   | (with_reducible apply spec_l3Mark.mono)
   | (with_reducible exact LeO.refl _)
   | (with_reducible exact LeO.none _)
   | (with_reducible refine LeO.ite ?_ ?_)
   | (with_reducible refine LeO.bind ?_ (fun _ => ?_))
   | exact LeO.none _
   | refine LeO.ite ?_ ?_
   | refine LeO.bind ?_ (fun _ => ?_)
set_option maxHeartbeats 8000000 in
set_option maxRecDepth 100000 in
theorem spec_l3Part.calls (k : Nat) (a0 : ByteArray) (r : Bool) (w : World) (h : spec_l3Part.f k a0 = some r) :
  Calls Tryd.prog 27 #[.string a0] w fun e w' => e = .returned (.bool r) ∧ Drawn0 w w' := by
 unfold spec_l3Part.f at h; have H := h; clear h; have HC2 := aM H; clear H; go_enter Tryd.func27, Tryd.ntmps27
 go_upto_region 1 with (fail)
 go_cut [21] (fun v21 wc => ∃ (kq : Nat) (x21_1 : Bool), v21 = .bool x21_1 ∧ Aside0 (spec_l3Part.j0 kq a0 x21_1 = some r) ∧ Aside0 (kq ≤ k) ∧ Drawn0 w wc)
 case first =>
  have H := HC2.out; clear HC2; by_cases c3 : a0.toList = ([] : List UInt8)
  ·
   rw [if_pos c3] at H; have c3b0 : (a0.toList == ([] : List UInt8)) = true := beq_iff_eq.mpr c3; have c3b1 : (a0.toList != ([] : List UInt8)) = false := bne_eq_false_iff_eq.mpr c3; have c3b2 : a0.toList.isEmpty = true := by simpa using c3
   clear c3
   (first | rw [c3b0] | (simp only [i64_w, i32_w]; rw [c3b0]) | (rw [c3b2]; try simp only [Bool.not_true, Bool.not_false]) | skip)
   have H' := aM H; clear H; go_wp2
   go_meet
   case rel => exact ⟨_, (true), zq6, H', ⟨zq7⟩, zq20⟩
  rw [if_neg c3] at H; have c3b0 : (a0.toList == ([] : List UInt8)) = false := beq_eq_false_iff_ne.mpr c3; have c3b1 : (a0.toList != ([] : List UInt8)) = true := bne_iff_ne.mpr c3; have c3b2 : a0.toList.isEmpty = false := by simpa using c3
  (first | rw [c3b0] | (simp only [i64_w, i32_w]; rw [c3b0]) | (rw [c3b2]; try simp only [Bool.not_true, Bool.not_false]) | skip)
  by_cases c4 : 0 < (a0.size : Int)
  ·
   rw [if_pos c4] at H; have c4b0 := decide_eq_true c4; have c4b1 : decide (0 < a0.size) = true := decide_eq_true (by omega); clear c4; replace H := Option.bind_eq_some_iff.mp H; obtain ⟨t120, A60, H⟩ := H; (try dsimp only at H); have A6 := aM A60; clear A60; by_cases c7 : t120 = true
   ·
    subst c7; rw [if_pos rfl] at H; obtain ⟨ji8, hji8⟩ : ∃ j_ : Int, (wrap64 ((a0.size : Int) - 1)) = j_ := ⟨_, rfl⟩; replace H : (if 0 ≤ (ji8) then (if (ji8) < (a0.size : Int) then ((spec_l3Low.f (bt a0 (ji8))).bind fun t121 => (spec_l3Part.j0 k a0 (!t121))) else (none)) else (none)) = some r := by first | (rw [hji8] at H; exact H) | (simp only [hji8] at H ⊢; exact H)
    (try rw [hji8] at A6); have hji8w : (IntKind.i64.wrap ((a0.size : Int) - 1)) = ji8 := (i64_w _).trans hji8; by_cases c9 : 0 ≤ (ji8)
    ·
     rw [if_pos c9] at H; have c9b0 := decide_eq_true c9; clear c9; by_cases c10 : (ji8) < (a0.size : Int)
     ·
      rw [if_pos c10] at H; have c10b0 := decide_eq_true c10; clear c10; replace H := Option.bind_eq_some_iff.mp H; obtain ⟨t121, A120, H⟩ := H; replace H : (spec_l3Part.j0 k a0 (!t121)) = some r := H; have A12 := aM A120; clear A120; have H' := aM H; clear H; have p5 : 0 ≤ (0 : Int) := (by omega); have q5 : 0 < a0.size := zq115; have hx5 : ∀ h : 0 < a0.size, ((a0[0]'h).toNat : Int) = bt a0 0 := bt_at a0 0; clear p5; have qi5 : (0 < (a0.size : Int)) = True := eq_true (of_decide_eq_true zq11); replace q5 := eq_true q5
      go_wp2_with (first | (go_at_call 47; (with_reducible refine (spec_l3Low.calls (bt a0 0) true _ A6.out).mono ?_); rintro e w' ⟨rfl, ⟨nd, rfl⟩⟩; have p11 : 0 ≤ ((ji8) : Int) := of_decide_eq_true zq11; have q11 : (ji8) < (a0.size : Int) := of_decide_eq_true zq11; have hx11 := bt_at a0 (ji8); replace p11 := eq_true p11; replace q11 := eq_true q11) | (go_at_call 47; (with_reducible refine (spec_l3Low.calls (bt a0 (ji8)) t121 _ A12.out).mono ?_); rintro e w' ⟨rfl, ⟨nd, rfl⟩⟩))
      go_meet
      case rel => exact ⟨_, (!t121), zq6, H', ⟨zq7⟩, zq20⟩
     exact zq137
    exact zq140
   replace c7 := Bool.eq_false_iff.mpr c7; subst c7; rw [if_neg (show ¬ (false = true) by decide)] at H; have H' := aM H; clear H; have p5 : 0 ≤ (0 : Int) := (by omega); have q5 : 0 < a0.size := zq115; have hx5 : ∀ h : 0 < a0.size, ((a0[0]'h).toNat : Int) = bt a0 0 := bt_at a0 0; clear p5; have qi5 : (0 < (a0.size : Int)) = True := eq_true (of_decide_eq_true zq11); replace q5 := eq_true q5
   go_wp2_with (first | (go_at_call 47; (with_reducible refine (spec_l3Low.calls (bt a0 0) false _ A6.out).mono ?_); rintro e w' ⟨rfl, ⟨nd, rfl⟩⟩))
   go_meet
   case rel => exact ⟨_, (true), zq6, H', ⟨zq7⟩, zq20⟩
  exact zq129
 case rest =>
  clear HC2; (try clear c1); (try clear p1); (try clear q1); (try clear hx1); (try clear c2); (try clear p2); (try clear c3); (try clear c3b0); (try clear c3b1); (try clear c3b2); (try clear c4); (try clear c4b0); (try clear c4b1); (try clear p5); (try clear q5); (try clear hx5); (try clear qi5); (try clear p6); (try clear c7); (try clear c9); (try clear c9b0); (try clear c10); (try clear c10b0); (try clear p11); (try clear q11); (try clear hx11); (try clear p11); (try clear p5); (try clear q11); (try clear q5); obtain ⟨kq, x21_1, rfl, HA, HJ1, ⟨mc1, rfl⟩⟩ := hcut
  cases kq with
  | zero => exact absurd HA.out (by simp [spec_l3Part.j0])
  | succ kj1 =>
   have H := HA.out; clear HA; simp only [spec_l3Part.j0] at H; by_cases c13 : x21_1 = true
   ·
    subst c13; rw [if_pos rfl] at H; obtain rfl := Option.some.inj H; go_wp2; go_ret; exact ⟨zq6, zq20⟩
   replace c13 := Bool.eq_false_iff.mpr c13; subst c13; rw [if_neg (show ¬ (false = true) by decide)] at H; have H' := aM H; clear H; go_wp2
   go_loopg [3] kj1 (fun kq v3 w' => ∃ (x3_2 : Int), v3 = .int .i64 x3_2 ∧ Aside0 (spec_l3Part.l0 kq a0 x3_2 = some r) ∧ Aside0 (kq ≤ kj1) ∧ Drawn0 w w')
   case atStart => exact ⟨(0), zq6, H', ⟨Nat.le_refl _⟩, zq20⟩
   case round =>
    clear H'; (try clear c1); (try clear p1); (try clear q1); (try clear hx1); (try clear c2); (try clear p2); (try clear c3); (try clear c3b0); (try clear c3b1); (try clear c3b2); (try clear c4); (try clear c4b0); (try clear c4b1); (try clear p5); (try clear q5); (try clear hx5); (try clear qi5); (try clear p6); (try clear c7); (try clear c9); (try clear c9b0); (try clear c10); (try clear c10b0); (try clear p11); (try clear q11); (try clear hx11); (try clear c13); (try clear p1); (try clear p11); (try clear p2); (try clear p5); (try clear p6); (try clear q1); (try clear q11); (try clear q5); obtain ⟨x3_2, rfl, HA, HK2, ⟨m2, rfl⟩⟩ := hrel
    cases gk with
    | zero => exact absurd HA.out (by simp [spec_l3Part.l0])
    | succ k2 =>
     have H := HA.out; clear HA; simp only [spec_l3Part.l0] at H; by_cases c14 : x3_2 < (a0.size : Int)
     ·
      rw [if_pos c14] at H; have c14b0 := decide_eq_true c14; clear c14; have H' := aM H; clear H; go_wp2
      go_loopg [4] k2 (fun kq v4 w' => ∃ (x4_3 : Int), v4 = .int .i64 x4_3 ∧ Aside0 (spec_l3Part.l1 kq a0 x3_2 x4_3 = some r) ∧ Aside0 (kq ≤ k2) ∧ Drawn0 w w')
      case atStart => exact ⟨(x3_2), zq6, H', ⟨Nat.le_refl _⟩, zq20⟩
      case round =>
       clear H'; (try clear c1); (try clear p1); (try clear q1); (try clear hx1); (try clear c2); (try clear p2); (try clear c3); (try clear c3b0); (try clear c3b1); (try clear c3b2); (try clear c4); (try clear c4b0); (try clear c4b1); (try clear p5); (try clear q5); (try clear hx5); (try clear qi5); (try clear p6); (try clear c7); (try clear c9); (try clear c9b0); (try clear c10); (try clear c10b0); (try clear p11); (try clear q11); (try clear hx11); (try clear c13); (try clear c14); (try clear c14b0); (try clear p1); (try clear p11); (try clear p2); (try clear p5); (try clear p6); (try clear q1); (try clear q11); (try clear q5); obtain ⟨x4_3, rfl, HA, HK3, ⟨m3, rfl⟩⟩ := hrel
       cases gk with
       | zero => exact absurd HA.out (by simp [spec_l3Part.l1])
       | succ k3 =>
        have H := HA.out; clear HA; simp only [spec_l3Part.l1] at H; by_cases c15 : x4_3 < (a0.size : Int)
        ·
         rw [if_pos c15] at H; have c15b0 := decide_eq_true c15; clear c15; by_cases c16 : 0 ≤ x4_3
         ·
          rw [if_pos c16] at H; have c16b0 := decide_eq_true c16; clear c16; replace H := Option.bind_eq_some_iff.mp H; obtain ⟨t122, A180, H⟩ := H; (try dsimp only at H); have A18 := aM A180; clear A180; by_cases c19 : t122 = true
          ·
           subst c19; rw [if_pos rfl] at H; by_cases c20 : x4_3 > x3_2
           ·
            rw [if_pos c20] at H; have c20b0 : decide (x3_2 < x4_3) = true := decide_eq_true c20; clear c20; by_cases c21 : 0 ≤ x3_2
            ·
             rw [if_pos c21] at H; have c21b0 := eq_true c21; have c21b1 := decide_eq_true c21; clear c21; by_cases c22 : x3_2 ≤ x4_3
             ·
              rw [if_pos c22] at H; have c22b0 := eq_true c22; have c22b1 := decide_eq_true c22; clear c22; by_cases c23 : x4_3 ≤ (a0.size : Int)
              ·
               rw [if_pos c23] at H; have c23b0 := eq_true c23; have c23b1 := decide_eq_true c23; clear c23; replace H := Option.bind_eq_some_iff.mp H; obtain ⟨t123, A240, H⟩ := H; (try dsimp only at H); have A24 := aM A240; clear A240; by_cases c25 : t123 = true
               ·
                subst c25; rw [if_pos rfl] at H; have H' := aM H; clear H; have p17 : 0 ≤ (x4_3 : Int) := of_decide_eq_true zq11; have q17 : x4_3 < (a0.size : Int) := of_decide_eq_true zq11; have hx17 := bt_at a0 x4_3; replace p17 := eq_true p17; replace q17 := eq_true q17
                go_wp2_with (first | (go_at_call 47; (with_reducible refine (spec_l3Low.calls (bt a0 x4_3) true _ A18.out).mono ?_); rintro e w' ⟨rfl, ⟨nd, rfl⟩⟩) | (go_at_call 48; (with_reducible refine (spec_l3Mark.calls k3 (a0.extract (x3_2 : Int).toNat (x4_3 : Int).toNat) true _ A24.out).mono ?_); rintro e w' ⟨rfl, ⟨nd, rfl⟩⟩))
                go_roundg k3
                case measure => have := HJ1.out; have := HK2.out; have := HK3.out; omega
                case rel => exact ⟨(wrap64 (x4_3 + 1)), zq6, H', ⟨zq79⟩, zq20⟩
               replace c25 := Bool.eq_false_iff.mpr c25; subst c25; rw [if_neg (show ¬ (false = true) by decide)] at H; obtain rfl := Option.some.inj H; have p17 : 0 ≤ (x4_3 : Int) := of_decide_eq_true zq11; have q17 : x4_3 < (a0.size : Int) := of_decide_eq_true zq11; have hx17 := bt_at a0 x4_3; replace p17 := eq_true p17; replace q17 := eq_true q17
               go_wp2_with (first | (go_at_call 47; (with_reducible refine (spec_l3Low.calls (bt a0 x4_3) true _ A18.out).mono ?_); rintro e w' ⟨rfl, ⟨nd, rfl⟩⟩) | (go_at_call 48; (with_reducible refine (spec_l3Mark.calls k3 (a0.extract (x3_2 : Int).toNat (x4_3 : Int).toNat) false _ A24.out).mono ?_); rintro e w' ⟨rfl, ⟨nd, rfl⟩⟩))
               go_ret; exact ⟨zq6, zq20⟩
              rw [if_neg c23] at H; exact absurd H (by simp)
             exact zq124
            rw [if_neg c21] at H; exact absurd H (by simp)
           rw [if_neg c20] at H; have c20b0 : decide (x3_2 < x4_3) = false := decide_eq_false c20; clear c20; have H' := aM H; clear H; have p17 : 0 ≤ (x4_3 : Int) := of_decide_eq_true zq11; have q17 : x4_3 < (a0.size : Int) := of_decide_eq_true zq11; have hx17 := bt_at a0 x4_3; replace p17 := eq_true p17; replace q17 := eq_true q17
           go_wp2_with (first | (go_at_call 47; (with_reducible refine (spec_l3Low.calls (bt a0 x4_3) true _ A18.out).mono ?_); rintro e w' ⟨rfl, ⟨nd, rfl⟩⟩))
           go_roundg k3
           case measure => have := HJ1.out; have := HK2.out; have := HK3.out; omega
           case rel => exact ⟨(wrap64 (x4_3 + 1)), zq6, H', ⟨zq79⟩, zq20⟩
          replace c19 := Bool.eq_false_iff.mpr c19; subst c19; rw [if_neg (show ¬ (false = true) by decide)] at H; have H' := aM H; clear H; have p17 : 0 ≤ (x4_3 : Int) := of_decide_eq_true zq11; have q17 : x4_3 < (a0.size : Int) := of_decide_eq_true zq11; have hx17 := bt_at a0 x4_3; replace p17 := eq_true p17; replace q17 := eq_true q17
          go_wp2_with (first | (go_at_call 47; (with_reducible refine (spec_l3Low.calls (bt a0 x4_3) false _ A18.out).mono ?_); rintro e w' ⟨rfl, ⟨nd, rfl⟩⟩))
          go_roundg k3
          case measure => have := HJ1.out; have := HK2.out; have := HK3.out; omega
          case rel => exact ⟨(wrap64 (x4_3 + 1)), zq6, H', ⟨zq79⟩, zq20⟩
         exact zq134
        rw [if_neg c15] at H; have c15b0 := decide_eq_false c15; clear c15; by_cases c26 : x4_3 > x3_2
        ·
         rw [if_pos c26] at H; have c26b0 : decide (x3_2 < x4_3) = true := decide_eq_true c26; clear c26; by_cases c27 : 0 ≤ x3_2
         ·
          rw [if_pos c27] at H; have c27b0 := eq_true c27; have c27b1 := decide_eq_true c27; clear c27; by_cases c28 : x3_2 ≤ x4_3
          ·
           rw [if_pos c28] at H; have c28b0 := eq_true c28; have c28b1 := decide_eq_true c28; clear c28; by_cases c29 : x4_3 ≤ (a0.size : Int)
           ·
            rw [if_pos c29] at H; have c29b0 := eq_true c29; have c29b1 := decide_eq_true c29; clear c29; replace H := Option.bind_eq_some_iff.mp H; obtain ⟨t124, A300, H⟩ := H; (try dsimp only at H); have A30 := aM A300; clear A300; by_cases c31 : t124 = true
            ·
             subst c31; rw [if_pos rfl] at H; have H' := aM H; clear H
             go_wp2_with (first | (go_at_call 48; (with_reducible refine (spec_l3Mark.calls k3 (a0.extract (x3_2 : Int).toNat (x4_3 : Int).toNat) true _ A30.out).mono ?_); rintro e w' ⟨rfl, ⟨nd, rfl⟩⟩))
             go_roundg k3
             case measure => have := HJ1.out; have := HK2.out; have := HK3.out; omega
             case rel => exact ⟨(wrap64 (x4_3 + 1)), zq6, H', ⟨zq79⟩, zq20⟩
            replace c31 := Bool.eq_false_iff.mpr c31; subst c31; rw [if_neg (show ¬ (false = true) by decide)] at H; obtain rfl := Option.some.inj H
            go_wp2_with (first | (go_at_call 48; (with_reducible refine (spec_l3Mark.calls k3 (a0.extract (x3_2 : Int).toNat (x4_3 : Int).toNat) false _ A30.out).mono ?_); rintro e w' ⟨rfl, ⟨nd, rfl⟩⟩))
            go_ret; exact ⟨zq6, zq20⟩
           rw [if_neg c29] at H; exact absurd H (by simp)
          rw [if_neg c28] at H; exact absurd H (by simp)
         rw [if_neg c27] at H; exact absurd H (by simp)
        rw [if_neg c26] at H; have c26b0 : decide (x3_2 < x4_3) = false := decide_eq_false c26; clear c26; have H' := aM H; clear H; go_wp2
        go_roundg k3
        case measure => have := HJ1.out; have := HK2.out; have := HK3.out; omega
        case rel => exact ⟨(wrap64 (x4_3 + 1)), zq6, H', ⟨zq79⟩, zq20⟩
     rw [if_neg c14] at H; have c14b0 := decide_eq_false c14; clear c14; obtain rfl := Option.some.inj H; go_wp2; go_ret; exact ⟨zq6, zq20⟩

end Go.Proofs.YtldpdaifajjaeaaDoor.QFnRefs
