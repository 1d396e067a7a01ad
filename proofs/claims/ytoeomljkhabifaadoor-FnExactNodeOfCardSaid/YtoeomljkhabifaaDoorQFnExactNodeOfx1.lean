/- Written by wip/myprint.py of this repo (the kit's print, with additions of this session). -/
import Derived.Test.YtoeomljkhabifaaDoorQFnExactNodeOfx0
set_option maxRecDepth 100000
namespace Go.Proofs.YtoeomljkhabifaaDoor.QFnExactNodeOf
open Go.RowKit Go.Proofs.YtoeomljkhabifaaDoorW.PrintWords Go.Proofs.YtoeomljkhabifaaDoorW.PrintLast Go.Proofs.YtoeomljkhabifaaDoorW.PrintMore
attribute [local go_sem] max2_int min2_int max_two min_two max_three min_three max_four min_four   -- for this text's walks alone
set_option linter.unusedVariables false
set_option linter.unusedSimpArgs false

attribute [local go_sem high] binOp_leqS binOp_gtrS
/-! ### laws_szStringS: function 6 -/
def laws_szStringS.l0 : Nat → List ByteArray → Int → Int → Option (Int)
 | 0, _, _, _ => none
 | k + 1, x0, x1, x5 => if x5 < (x0.length : Int) then (if 0 ≤ x5 then (if (wrap64 (x1 - ((rdOf ByteArray.empty x0 x5).size : Int))) < 0 then (some (-1)) else (laws_szStringS.l0 k x0 (wrap64 (x1 - ((rdOf ByteArray.empty x0 x5).size : Int))) (wrap64 (x5 + 1)))) else (none)) else (some x1)
def laws_szStringS.f (k : Nat) (l0 : List ByteArray) (a1 : Int) : Option (Int) := if (wrap64 (a1 - (l0.length : Int))) < 0 then (some (-1)) else (laws_szStringS.l0 k l0 (wrap64 (a1 - (l0.length : Int))) 0)
theorem laws_szStringS.mono_l : ∀ k, (∀ y0 y1 y2, LeO (laws_szStringS.l0 k y0 y1 y2) (laws_szStringS.l0 (k + 1) y0 y1 y2))
 | 0 => fun _ _ _ r h => by simp [laws_szStringS.l0] at h
 | k + 1 => by
  have ih0 := laws_szStringS.mono_l k
  ·
   intro y0 y1 y2; unfold laws_szStringS.l0
   repeat' first
   | (with_reducible apply ih0)
   | (with_reducible exact LeO.refl _)
   | (with_reducible exact LeO.none _)
   | (with_reducible refine LeO.ite ?_ ?_)
   | (with_reducible refine LeO.bind ?_ (fun _ => ?_))
   | exact LeO.none _
   | refine LeO.ite ?_ ?_
   | refine LeO.bind ?_ (fun _ => ?_)
theorem laws_szStringS.mono : ∀ a0 a1 k, LeO (laws_szStringS.f k a0 a1) (laws_szStringS.f (k + 1) a0 a1) := by
 intro a0 a1 k; have ih0 := laws_szStringS.mono_l k; unfold laws_szStringS.f
 repeat' first
   | (with_reducible apply ih0)
   | (with_reducible exact LeO.refl _)
   | (with_reducible exact LeO.none _)
   | (with_reducible refine LeO.ite ?_ ?_)
   | (with_reducible refine LeO.bind ?_ (fun _ => ?_))
   | exact LeO.none _
   | refine LeO.ite ?_ ?_
   | refine LeO.bind ?_ (fun _ => ?_)
set_option maxHeartbeats 8000000 in
set_option maxRecDepth 100000 in
theorem laws_szStringS.calls (k : Nat) (A0 : Option Addr) (c0 : Nat) (l0 : List ByteArray) (a1 : Int) (r : Int) (w : World) (hr0 : Kd.C Kd.string w A0 l0.length l0) (hc0 : l0.length ≤ c0) (h : laws_szStringS.f k l0 a1 = some r) :
  Calls Tryd.prog 6 #[.slice A0 l0.length c0, .int .i64 a1] w fun e w' => e = .returned (.int .i64 r) ∧ Drawn0 w w' := by
 have HR0 := aM hr0; have HC0 := aM hc0; clear hr0 hc0; unfold laws_szStringS.f at h; have H := h; clear h; by_cases c3 : (wrap64 (a1 - (l0.length : Int))) < 0
 ·
  rw [if_pos c3] at H; have c3b0 := decide_eq_true c3; clear c3; obtain rfl := Option.some.inj H; go_enter Tryd.func6, Tryd.ntmps6; go_wp2; go_ret; exact ⟨zq1, zq2⟩
 rw [if_neg c3] at H; have c3b0 := decide_eq_false c3; clear c3; have H' := aM H; clear H; go_enter Tryd.func6, Tryd.ntmps6; go_wp2
 go_loopg [1, 5] k (fun kq v1 v5 w' => ∃ (x1_1 : Int) (x5_1 : Int), v1 = .int .i64 x1_1 ∧ v5 = .int .i64 x5_1 ∧ Aside0 (laws_szStringS.l0 kq l0 x1_1 x5_1 = some r) ∧ Aside0 (kq ≤ k) ∧ Drawn0 w w')
 case atStart => exact ⟨(wrap64 (a1 - (l0.length : Int))), (0), zq1, zq1, H', ⟨Nat.le_refl _⟩, zq2⟩
 case round =>
  clear H'; (try clear p2); (try clear c3); (try clear c3b0); obtain ⟨x1_1, x5_1, rfl, rfl, HA, HK1, ⟨m1, rfl⟩⟩ := hrel
  cases gk with
  | zero => exact absurd HA.out (by simp [laws_szStringS.l0])
  | succ k1 =>
   have H := HA.out; clear HA; simp only [laws_szStringS.l0] at H; by_cases c4 : x5_1 < (l0.length : Int)
   ·
    rw [if_pos c4] at H; have c4b0 := decide_eq_true c4; clear c4; by_cases c5 : 0 ≤ x5_1
    ·
     rw [if_pos c5] at H; have c5b0 := decide_eq_true c5; clear c5; by_cases c6 : (wrap64 (x1_1 - ((rdOf ByteArray.empty l0 x5_1).size : Int))) < 0
     ·
      rw [if_pos c6] at H; have c6b0 := decide_eq_true c6; clear c6; obtain rfl := Option.some.inj H; have p101 : 0 ≤ (x5_1 : Int) := of_decide_eq_true zq3; have q101 : x5_1 < (l0.length : Int) := of_decide_eq_true zq3; obtain ⟨ad101, e101, hx101_0⟩ := Kd.at_string HR0.out x5_1 p101 q101; cases e101; replace p101 := eq_true p101; replace q101 := eq_true q101; go_wp2; go_ret; exact ⟨zq1, zq2⟩
     rw [if_neg c6] at H; have c6b0 := decide_eq_false c6; clear c6; have H' := aM H; clear H; have p101 : 0 ≤ (x5_1 : Int) := of_decide_eq_true zq3; have q101 : x5_1 < (l0.length : Int) := of_decide_eq_true zq3; obtain ⟨ad101, e101, hx101_0⟩ := Kd.at_string HR0.out x5_1 p101 q101; cases e101; replace p101 := eq_true p101; replace q101 := eq_true q101; go_wp2
     go_roundg k1
     case measure => have := HK1.out; omega
     case rel => exact ⟨(wrap64 (x1_1 - ((rdOf ByteArray.empty l0 x5_1).size : Int))), (wrap64 (x5_1 + 1)), zq1, zq1, H', ⟨zq4⟩, zq2⟩
    exact zq54
   rw [if_neg c4] at H; have c4b0 := decide_eq_false c4; clear c4; obtain rfl := Option.some.inj H; go_wp2; go_ret; exact ⟨zq1, zq2⟩

/-! ### spec_l1Rises: function 37 -/
def spec_l1Rises.l0 : Nat → List ByteArray → Int → Option (Bool)
 | 0, _, _ => none
 | k + 1, x0, x3 => if x3 < (x0.length : Int) then (if 0 ≤ x3 then (if 0 ≤ (wrap64 (x3 - 1)) then (if (wrap64 (x3 - 1)) < (x0.length : Int) then (if ((Op.bytesLess ((rdOf ByteArray.empty x0 (wrap64 (x3 - 1))).toList) ((rdOf ByteArray.empty x0 x3).toList)) = true) then (spec_l1Rises.l0 k x0 (wrap64 (x3 + 1))) else (some false)) else (none)) else (none)) else (none)) else (some true)
def spec_l1Rises.f (k : Nat) (l0 : List ByteArray) : Option (Bool) := spec_l1Rises.l0 k l0 1
theorem spec_l1Rises.mono_l : ∀ k, (∀ y0 y1, LeO (spec_l1Rises.l0 k y0 y1) (spec_l1Rises.l0 (k + 1) y0 y1))
 | 0 => fun _ _ r h => by simp [spec_l1Rises.l0] at h
 | k + 1 => by
  have ih0 := spec_l1Rises.mono_l k
  ·
   intro y0 y1; unfold spec_l1Rises.l0
   repeat' first
   | (with_reducible apply ih0)
   | (with_reducible exact LeO.refl _)
   | (with_reducible exact LeO.none _)
   | (with_reducible refine LeO.ite ?_ ?_)
   | (with_reducible refine LeO.bind ?_ (fun _ => ?_))
   | exact LeO.none _
   | refine LeO.ite ?_ ?_
   | refine LeO.bind ?_ (fun _ => ?_)
theorem spec_l1Rises.mono : ∀ a0 k, LeO (spec_l1Rises.f k a0) (spec_l1Rises.f (k + 1) a0) := by
 intro a0 k; have ih0 := spec_l1Rises.mono_l k; unfold spec_l1Rises.f
 repeat' first
   | (with_reducible apply ih0)
   | (with_reducible exact LeO.refl _)
   | (with_reducible exact LeO.none _)
   | (with_reducible refine LeO.ite ?_ ?_)
   | (with_reducible refine LeO.bind ?_ (fun _ => ?_))
   | exact LeO.none _
   | refine LeO.ite ?_ ?_
   | refine LeO.bind ?_ (fun _ => ?_)
set_option maxHeartbeats 8000000 in
set_option maxRecDepth 100000 in
theorem spec_l1Rises.calls (k : Nat) (A0 : Option Addr) (c0 : Nat) (l0 : List ByteArray) (r : Bool) (w : World) (hr0 : Kd.C Kd.string w A0 l0.length l0) (hc0 : l0.length ≤ c0) (h : spec_l1Rises.f k l0 = some r) :
  Calls Tryd.prog 37 #[.slice A0 l0.length c0] w fun e w' => e = .returned (.bool r) ∧ Drawn0 w w' := by
 have HR0 := aM hr0; have HC0 := aM hc0; clear hr0 hc0; have H : (spec_l1Rises.l0 k l0 1) = some r := h; clear h; have H' := aM H; clear H; go_enter Tryd.func37, Tryd.ntmps37; go_wp2
 repeat (go_quiet (fail); try go_wp2)
 go_loopg [3] k (fun kq v3 w' => ∃ (x3_1 : Int), v3 = .int .i64 x3_1 ∧ Aside0 (spec_l1Rises.l0 kq l0 x3_1 = some r) ∧ Aside0 (kq ≤ k) ∧ Drawn0 w w')
 case atStart => exact ⟨(1), zq1, H', ⟨Nat.le_refl _⟩, zq2⟩
 case round =>
  clear H'; obtain ⟨x3_1, rfl, HA, HK1, ⟨m1, rfl⟩⟩ := hrel
  cases gk with
  | zero => exact absurd HA.out (by simp [spec_l1Rises.l0])
  | succ k1 =>
   have H := HA.out; clear HA; simp only [spec_l1Rises.l0] at H; by_cases c2 : x3_1 < (l0.length : Int)
   ·
    rw [if_pos c2] at H; have c2b0 := decide_eq_true c2; clear c2; by_cases c3 : 0 ≤ x3_1
    ·
     rw [if_pos c3] at H; have c3b0 := decide_eq_true c3; clear c3; obtain ⟨ji4, hji4⟩ : ∃ j_ : Int, (wrap64 (x3_1 - 1)) = j_ := ⟨_, rfl⟩; replace H : (if 0 ≤ (ji4) then (if (ji4) < (l0.length : Int) then (if ((Op.bytesLess ((rdOf ByteArray.empty l0 (ji4)).toList) ((rdOf ByteArray.empty l0 x3_1).toList)) = true) then (spec_l1Rises.l0 k1 l0 (wrap64 (x3_1 + 1))) else (some false)) else (none)) else (none)) = some r := by first | (rw [hji4] at H; exact H) | (simp only [hji4] at H ⊢; exact H)
     have hji4w : (IntKind.i64.wrap (x3_1 - 1)) = ji4 := (i64_w _).trans hji4; by_cases c5 : 0 ≤ (ji4)
     ·
      rw [if_pos c5] at H; have c5b0 := decide_eq_true c5; clear c5; by_cases c6 : (ji4) < (l0.length : Int)
      ·
       rw [if_pos c6] at H; have c6b0 := decide_eq_true c6; clear c6; by_cases c7 : ((Op.bytesLess ((rdOf ByteArray.empty l0 (ji4)).toList) ((rdOf ByteArray.empty l0 x3_1).toList)) = true)
       ·
        rw [if_pos c7] at H; have c7b0 : (Op.bytesLess ((rdOf ByteArray.empty l0 (ji4)).toList) ((rdOf ByteArray.empty l0 x3_1).toList)) = true := c7; clear c7; have H' := aM H; clear H; have p102 : 0 ≤ (x3_1 : Int) := of_decide_eq_true zq3; have q102 : x3_1 < (l0.length : Int) := of_decide_eq_true zq3; obtain ⟨ad102, e102, hx102_0⟩ := Kd.at_string HR0.out x3_1 p102 q102; cases e102; replace p102 := eq_true p102; replace q102 := eq_true q102; have p103 : 0 ≤ ((ji4) : Int) := of_decide_eq_true zq3; have q103 : (ji4) < (l0.length : Int) := of_decide_eq_true zq3; obtain ⟨ad103, e103, hx103_0⟩ := Kd.at_string HR0.out (ji4) p103 q103; obtain rfl : ad102 = ad103 := (by injection e103); replace p103 := eq_true p103; replace q103 := eq_true q103; go_wp2
        repeat (go_quiet (fail); try go_wp2)
        go_roundg k1
        case measure => have := HK1.out; omega
        case rel => exact ⟨(wrap64 (x3_1 + 1)), zq1, H', ⟨zq4⟩, zq2⟩
       rw [if_neg c7] at H; have c7b0 : (Op.bytesLess ((rdOf ByteArray.empty l0 (ji4)).toList) ((rdOf ByteArray.empty l0 x3_1).toList)) = false := by simpa using c7
       clear c7; obtain rfl := Option.some.inj H; have p102 : 0 ≤ (x3_1 : Int) := of_decide_eq_true zq3; have q102 : x3_1 < (l0.length : Int) := of_decide_eq_true zq3; obtain ⟨ad102, e102, hx102_0⟩ := Kd.at_string HR0.out x3_1 p102 q102; cases e102; replace p102 := eq_true p102; replace q102 := eq_true q102; have p103 : 0 ≤ ((ji4) : Int) := of_decide_eq_true zq3; have q103 : (ji4) < (l0.length : Int) := of_decide_eq_true zq3; obtain ⟨ad103, e103, hx103_0⟩ := Kd.at_string HR0.out (ji4) p103 q103; obtain rfl : ad102 = ad103 := (by injection e103); replace p103 := eq_true p103; replace q103 := eq_true q103; go_wp2
       repeat (go_quiet (fail); try go_wp2)
       go_ret; exact ⟨by first | rfl | (simp; done) | (simp only [← hji4] <;> (first | rfl | simp)) | (simp [*]; done), zq2⟩
      exact zq55
     exact zq54
    exact zq56
   rw [if_neg c2] at H; have c2b0 := decide_eq_false c2; clear c2; obtain rfl := Option.some.inj H; go_wp2
   repeat (go_quiet (fail); try go_wp2)
   go_ret; exact ⟨zq1, zq2⟩

/-! ### spec_l1Digit: function 53 -/
def spec_l1Digit.f (a0 : Int) : Option (Bool) := if a0 ≥ 48 then (some (decide (a0 ≤ 57))) else (some false)
set_option maxHeartbeats 8000000 in
set_option maxRecDepth 100000 in
theorem spec_l1Digit.calls (a0 : Int) (r : Bool) (w : World) (h : spec_l1Digit.f a0 = some r) :
  Calls Tryd.prog 53 #[.int .u8 a0] w fun e w' => e = .returned (.bool r) ∧ Drawn0 w w' := by
 unfold spec_l1Digit.f at h; have H := h; clear h; by_cases c2 : a0 ≥ 48
 ·
  rw [if_pos c2] at H; have c2b0 : decide (48 ≤ a0) = true := decide_eq_true c2; clear c2; obtain rfl := Option.some.inj H; go_enter Tryd.func53, Tryd.ntmps53; go_wp2; go_ret; exact ⟨zq1, zq2⟩
 rw [if_neg c2] at H; have c2b0 : decide (48 ≤ a0) = false := decide_eq_false c2; clear c2; obtain rfl := Option.some.inj H; go_enter Tryd.func53, Tryd.ntmps53; go_wp2; go_ret; exact ⟨zq1, zq2⟩

/-! ### spec_l1Hexit: function 39 -/
def spec_l1Hexit.f (a0 : Int) : Option (Int) := (spec_l1Digit.f a0).bind fun t104 => (if t104 = true then (some ((a0 - 48) % 256)) else (if a0 ≥ 97 then (if a0 ≤ 102 then (some (((a0 - 97) % 256) + 10)) else (some (-1))) else (some (-1))))
set_option maxHeartbeats 8000000 in
set_option maxRecDepth 100000 in
theorem spec_l1Hexit.calls (a0 : Int) (r : Int) (w : World) (h : spec_l1Hexit.f a0 = some r) :
  Calls Tryd.prog 39 #[.int .u8 a0] w fun e w' => e = .returned (.int .i64 r) ∧ Drawn0 w w' := by
 unfold spec_l1Hexit.f at h; have H := h; clear h; replace H := Option.bind_eq_some_iff.mp H; obtain ⟨t104, A20, H⟩ := H; (try dsimp only at H); have A2 := aM A20; clear A20; by_cases c3 : t104 = true
 ·
  subst c3; rw [if_pos rfl] at H; obtain rfl := Option.some.inj H; go_enter Tryd.func39, Tryd.ntmps39
  go_wp2_with (first | ((with_reducible refine gC 53 rfl ?_); refine gL 4 Tryd.func53 #[.int .u8 a0] ?_; (with_reducible refine (spec_l1Digit.calls a0 true _ A2.out).mono ?_); rintro e w' ⟨rfl, ⟨nd, rfl⟩⟩; refine ⟨_, rfl, ?_⟩))
  go_ret; exact ⟨zq1, zq2⟩
 replace c3 := Bool.eq_false_iff.mpr c3; subst c3; rw [if_neg (show ¬ (false = true) by decide)] at H; by_cases c4 : a0 ≥ 97
 ·
  rw [if_pos c4] at H; have c4b0 : decide (97 ≤ a0) = true := decide_eq_true c4; clear c4; by_cases c5 : a0 ≤ 102
  ·
   rw [if_pos c5] at H; have c5b0 := decide_eq_true c5; clear c5; obtain rfl := Option.some.inj H; go_enter Tryd.func39, Tryd.ntmps39
   go_wp2_with (first | ((with_reducible refine gC 53 rfl ?_); refine gL 4 Tryd.func53 #[.int .u8 a0] ?_; (with_reducible refine (spec_l1Digit.calls a0 false _ A2.out).mono ?_); rintro e w' ⟨rfl, ⟨nd, rfl⟩⟩; refine ⟨_, rfl, ?_⟩))
   go_ret; exact ⟨zq1, zq2⟩
  rw [if_neg c5] at H; have c5b0 := decide_eq_false c5; clear c5; obtain rfl := Option.some.inj H; go_enter Tryd.func39, Tryd.ntmps39
  go_wp2_with (first | ((with_reducible refine gC 53 rfl ?_); refine gL 4 Tryd.func53 #[.int .u8 a0] ?_; (with_reducible refine (spec_l1Digit.calls a0 false _ A2.out).mono ?_); rintro e w' ⟨rfl, ⟨nd, rfl⟩⟩; refine ⟨_, rfl, ?_⟩))
  go_ret; exact ⟨zq1, zq2⟩
 rw [if_neg c4] at H; have c4b0 : decide (97 ≤ a0) = false := decide_eq_false c4; clear c4; obtain rfl := Option.some.inj H; go_enter Tryd.func39, Tryd.ntmps39
 go_wp2_with (first | ((with_reducible refine gC 53 rfl ?_); refine gL 4 Tryd.func53 #[.int .u8 a0] ?_; (with_reducible refine (spec_l1Digit.calls a0 false _ A2.out).mono ?_); rintro e w' ⟨rfl, ⟨nd, rfl⟩⟩; refine ⟨_, rfl, ?_⟩))
 go_ret; exact ⟨zq1, zq2⟩

/-! ### spec_DigestOk: function 38 -/
mutual
def spec_DigestOk.j0 : Nat → ByteArray → Bool → Option (Bool)
 | 0, _, _ => none
 | k + 1, x0, x11 => if x11 = true then (some false) else (spec_DigestOk.l0 k x0 7)
def spec_DigestOk.l0 : Nat → ByteArray → Int → Option (Bool)
 | 0, _, _ => none
 | k + 1, x0, x3 => if x3 < 71 then (if 0 ≤ x3 then (if x3 < (x0.size : Int) then ((spec_l1Hexit.f (bt x0 x3)).bind fun t105 => (if t105 < 0 then (some false) else (spec_DigestOk.l0 k x0 (wrap64 (x3 + 1))))) else (none)) else (none)) else (some true)
end
def spec_DigestOk.f (k : Nat) (a0 : ByteArray) : Option (Bool) := if (a0.size : Int) = 71 then (if 0 ≤ 7 then (if 7 ≤ (a0.size : Int) then (spec_DigestOk.j0 k a0 ((a0.extract 0 7).toList != ([115, 104, 97, 50, 53, 54, 58] : List UInt8))) else (none)) else (none)) else (spec_DigestOk.j0 k a0 true)
theorem spec_DigestOk.mono_l : ∀ k, (∀ y0 y1, LeO (spec_DigestOk.j0 k y0 y1) (spec_DigestOk.j0 (k + 1) y0 y1)) ∧ (∀ y0 y1, LeO (spec_DigestOk.l0 k y0 y1) (spec_DigestOk.l0 (k + 1) y0 y1))
 | 0 => ⟨fun _ _ r h => by simp [spec_DigestOk.j0] at h, fun _ _ r h => by simp [spec_DigestOk.l0] at h⟩
 | k + 1 => by
  obtain ⟨ih0, ih1⟩ := spec_DigestOk.mono_l k; refine ⟨?_, ?_⟩
  ·
   intro y0 y1; unfold spec_DigestOk.j0
   repeat' first
   | (with_reducible apply ih0)
   | (with_reducible apply ih1)
   | (with_reducible exact LeO.refl _)
   | (with_reducible exact LeO.none _)
   | (with_reducible refine LeO.ite ?_ ?_)
   | (with_reducible refine LeO.bind ?_ (fun _ => ?_))
   | exact LeO.none _
   | refine LeO.ite ?_ ?_
   | refine LeO.bind ?_ (fun _ => ?_)
  intro y0 y1; unfold spec_DigestOk.l0
  repeat' first
  | (with_reducible apply ih0)
  | (with_reducible apply ih1)
  | (with_reducible exact LeO.refl _)
  | (with_reducible exact LeO.none _)
  | (with_reducible refine LeO.ite ?_ ?_)
  | (with_reducible refine LeO.bind ?_ (fun _ => ?_))
  | exact LeO.none _
  | refine LeO.ite ?_ ?_
  | refine LeO.bind ?_ (fun _ => ?_)
theorem spec_DigestOk.mono : ∀ a0 k, LeO (spec_DigestOk.f k a0) (spec_DigestOk.f (k + 1) a0) := by
 intro a0 k; obtain ⟨ih0, ih1⟩ := spec_DigestOk.mono_l k; unfold spec_DigestOk.f
 repeat' first
   | (with_reducible apply ih0)
   | (with_reducible apply ih1)
   | (with_reducible exact LeO.refl _)
   | (with_reducible exact LeO.none _)
   | (with_reducible refine LeO.ite ?_ ?_)
   | (with_reducible refine LeO.bind ?_ (fun _ => ?_))
   | exact LeO.none _
   | refine LeO.ite ?_ ?_
   | refine LeO.bind ?_ (fun _ => ?_)
set_option maxHeartbeats 8000000 in
set_option maxRecDepth 100000 in
theorem spec_DigestOk.calls (k : Nat) (a0 : ByteArray) (r : Bool) (w : World) (h : spec_DigestOk.f k a0 = some r) :
  Calls Tryd.prog 38 #[.string a0] w fun e w' => e = .returned (.bool r) ∧ Drawn0 w w' := by
 unfold spec_DigestOk.f at h; have H := h; clear h; have HC2 := aM H; clear H; go_enter Tryd.func38, Tryd.ntmps38
 go_upto_region 1 with (fail)
 go_cut [11] (fun v11 wc => ∃ (kq : Nat) (x11_1 : Bool), v11 = .bool x11_1 ∧ Aside0 (spec_DigestOk.j0 kq a0 x11_1 = some r) ∧ Aside0 (kq ≤ k) ∧ Drawn0 w wc)
 case first =>
  have H := HC2.out; clear HC2; by_cases c3 : (a0.size : Int) = 71
  ·
   rw [if_pos c3] at H; have c3b0 : ((a0.size : Int) == 71) = true := beq_iff_eq.mpr c3; have c3b1 : ((a0.size : Int) != 71) = false := bne_eq_false_iff_eq.mpr c3; clear c3
   (first | rw [c3b0] | (simp only [i64_w, i32_w]; rw [c3b0]) | skip)
   by_cases c4 : 0 ≤ 7
   ·
    rw [if_pos c4] at H; have c4b0 := eq_true c4; have c4b1 := decide_eq_true c4; clear c4; by_cases c5 : 7 ≤ (a0.size : Int)
    ·
     rw [if_pos c5] at H; have c5b0 := eq_true c5; have c5b1 := decide_eq_true c5; clear c5; have H' := aM H; clear H; go_wp2
     go_meet
     case rel => exact ⟨_, (((a0.extract 0 7).toList != ([115, 104, 97, 50, 53, 54, 58] : List UInt8))), zq1, H', ⟨zq6⟩, zq2⟩
    exact zq54
   exact zq57
  rw [if_neg c3] at H; have c3b0 : ((a0.size : Int) == 71) = false := beq_eq_false_iff_ne.mpr c3; have c3b1 : ((a0.size : Int) != 71) = true := bne_iff_ne.mpr c3
  (first | rw [c3b0] | (simp only [i64_w, i32_w]; rw [c3b0]) | skip)
  have H' := aM H; clear H; go_wp2
  go_meet
  case rel => exact ⟨_, (true), zq1, H', ⟨zq6⟩, zq2⟩
 case rest =>
  clear HC2; (try clear p2); (try clear c3); (try clear c3b0); (try clear c3b1); (try clear c4); (try clear c4b0); (try clear c4b1); (try clear c5); (try clear c5b0); (try clear c5b1); obtain ⟨kq, x11_1, rfl, HA, HJ1, ⟨mc1, rfl⟩⟩ := hcut
  cases kq with
  | zero => exact absurd HA.out (by simp [spec_DigestOk.j0])
  | succ kj1 =>
   have H := HA.out; clear HA; simp only [spec_DigestOk.j0] at H; by_cases c6 : x11_1 = true
   ·
    subst c6; rw [if_pos rfl] at H; obtain rfl := Option.some.inj H; go_wp2; go_ret; exact ⟨zq1, zq2⟩
   replace c6 := Bool.eq_false_iff.mpr c6; subst c6; rw [if_neg (show ¬ (false = true) by decide)] at H; have H' := aM H; clear H; go_wp2
   go_loopg [3] kj1 (fun kq v3 w' => ∃ (x3_2 : Int), v3 = .int .i64 x3_2 ∧ Aside0 (spec_DigestOk.l0 kq a0 x3_2 = some r) ∧ Aside0 (kq ≤ kj1) ∧ Drawn0 w w')
   case atStart => exact ⟨(7), zq1, H', ⟨Nat.le_refl _⟩, zq2⟩
   case round =>
    clear H'; (try clear c1); (try clear p2); (try clear c3); (try clear c3b0); (try clear c3b1); (try clear c4); (try clear c4b0); (try clear c4b1); (try clear c5); (try clear c5b0); (try clear c5b1); (try clear c6); (try clear p2); obtain ⟨x3_2, rfl, HA, HK2, ⟨m2, rfl⟩⟩ := hrel
    cases gk with
    | zero => exact absurd HA.out (by simp [spec_DigestOk.l0])
    | succ k2 =>
     have H := HA.out; clear HA; simp only [spec_DigestOk.l0] at H; by_cases c7 : x3_2 < 71
     ·
      rw [if_pos c7] at H; have c7b0 := decide_eq_true c7; clear c7; by_cases c8 : 0 ≤ x3_2
      ·
       rw [if_pos c8] at H; have c8b0 := decide_eq_true c8; clear c8; by_cases c9 : x3_2 < (a0.size : Int)
       ·
        rw [if_pos c9] at H; have c9b0 := decide_eq_true c9; clear c9; replace H := Option.bind_eq_some_iff.mp H; obtain ⟨t105, A110, H⟩ := H; (try dsimp only at H); have A11 := aM A110; clear A110; by_cases c12 : t105 < 0
        ·
         rw [if_pos c12] at H; have c12b0 := decide_eq_true c12; clear c12; obtain rfl := Option.some.inj H; have p10 : 0 ≤ (x3_2 : Int) := of_decide_eq_true zq3; have q10 : x3_2 < (a0.size : Int) := of_decide_eq_true zq3; have hx10 := bt_at a0 x3_2; replace p10 := eq_true p10; replace q10 := eq_true q10
         go_wp2_with (first | ((with_reducible refine gC 39 rfl ?_); refine gL 19 Tryd.func39 #[.int .u8 (bt a0 x3_2)] ?_; (with_reducible refine (spec_l1Hexit.calls (bt a0 x3_2) t105 _ A11.out).mono ?_); rintro e w' ⟨rfl, ⟨nd, rfl⟩⟩; refine ⟨_, rfl, ?_⟩))
         go_ret; exact ⟨zq1, zq2⟩
        rw [if_neg c12] at H; have c12b0 := decide_eq_false c12; clear c12; have H' := aM H; clear H; have p10 : 0 ≤ (x3_2 : Int) := of_decide_eq_true zq3; have q10 : x3_2 < (a0.size : Int) := of_decide_eq_true zq3; have hx10 := bt_at a0 x3_2; replace p10 := eq_true p10; replace q10 := eq_true q10
        go_wp2_with (first | ((with_reducible refine gC 39 rfl ?_); refine gL 19 Tryd.func39 #[.int .u8 (bt a0 x3_2)] ?_; (with_reducible refine (spec_l1Hexit.calls (bt a0 x3_2) t105 _ A11.out).mono ?_); rintro e w' ⟨rfl, ⟨nd, rfl⟩⟩; refine ⟨_, rfl, ?_⟩))
        go_roundg k2
        case measure => have := HJ1.out; have := HK2.out; omega
        case rel => exact ⟨(wrap64 (x3_2 + 1)), zq1, H', ⟨by have := HJ1.out; have := HK2.out; omega⟩, zq2⟩
       exact zq58
      exact zq59
     rw [if_neg c7] at H; have c7b0 := decide_eq_false c7; clear c7; obtain rfl := Option.some.inj H; go_wp2; go_ret; exact ⟨zq1, zq2⟩

/-! ### spec_l7Set: function 20 -/
mutual
def spec_l7Set.j0 : Nat → List ByteArray → Bool → Option (Bool)
 | 0, _, _ => none
 | k + 1, x0, x11 => if x11 = true then (some false) else (spec_l7Set.l0 k x0 0)
def spec_l7Set.l0 : Nat → List ByteArray → Int → Option (Bool)
 | 0, _, _ => none
 | k + 1, x0, x3 => if x3 < (x0.length : Int) then (if 0 ≤ x3 then ((spec_DigestOk.f k (rdOf ByteArray.empty x0 x3)).bind fun t108 => (if t108 = true then (spec_l7Set.l0 k x0 (wrap64 (x3 + 1))) else (some false))) else (none)) else (some true)
end
def spec_l7Set.f (k : Nat) (l0 : List ByteArray) : Option (Bool) := if (l0.length : Int) > 200 then (spec_l7Set.j0 k l0 true) else ((spec_l1Rises.f k l0).bind fun t106 => (spec_l7Set.j0 k l0 (!t106)))
theorem spec_l7Set.mono_l : ∀ k, (∀ y0 y1, LeO (spec_l7Set.j0 k y0 y1) (spec_l7Set.j0 (k + 1) y0 y1)) ∧ (∀ y0 y1, LeO (spec_l7Set.l0 k y0 y1) (spec_l7Set.l0 (k + 1) y0 y1))
 | 0 => ⟨fun _ _ r h => by simp [spec_l7Set.j0] at h, fun _ _ r h => by simp [spec_l7Set.l0] at h⟩
 | k + 1 => by
  obtain ⟨ih0, ih1⟩ := spec_l7Set.mono_l k; refine ⟨?_, ?_⟩
  ·
   intro y0 y1; unfold spec_l7Set.j0
   repeat' first
   | (with_reducible apply ih0)
   | (with_reducible apply ih1)
   | (with_reducible apply spec_DigestOk.mono)
   | (with_reducible apply spec_l1Rises.mono)
   | (with_reducible exact LeO.refl _)
   | (with_reducible exact LeO.none _)
   | (with_reducible refine LeO.ite ?_ ?_)
   | (with_reducible refine LeO.bind ?_ (fun _ => ?_))
   | exact LeO.none _
   | refine LeO.ite ?_ ?_
   | refine LeO.bind ?_ (fun _ => ?_)
  intro y0 y1; unfold spec_l7Set.l0
  repeat' first
  | (with_reducible apply ih0)
  | (with_reducible apply ih1)
  | (with_reducible apply spec_DigestOk.mono)
  | (with_reducible apply spec_l1Rises.mono)
  | (with_reducible exact LeO.refl _)
  | (with_reducible exact LeO.none _)
  | (with_reducible refine LeO.ite ?_ ?_)
  | (with_reducible refine LeO.bind ?_ (fun _ => ?_))
  | exact LeO.none _
  | refine LeO.ite ?_ ?_
  | refine LeO.bind ?_ (fun _ => ?_)
theorem spec_l7Set.mono : ∀ a0 k, LeO (spec_l7Set.f k a0) (spec_l7Set.f (k + 1) a0) := by
 intro a0 k; obtain ⟨ih0, ih1⟩ := spec_l7Set.mono_l k; unfold spec_l7Set.f
 repeat' first
   | (with_reducible apply ih0)
   | (with_reducible apply ih1)
   | (with_reducible apply spec_DigestOk.mono)
   | (with_reducible apply spec_l1Rises.mono)
   | (with_reducible exact LeO.refl _)
   | (with_reducible exact LeO.none _)
   | (with_reducible refine LeO.ite ?_ ?_)
   | (with_reducible refine LeO.bind ?_ (fun _ => ?_))
   | exact LeO.none _
   | refine LeO.ite ?_ ?_
   | refine LeO.bind ?_ (fun _ => ?_)
set_option maxHeartbeats 8000000 in
set_option maxRecDepth 100000 in
theorem spec_l7Set.calls (k : Nat) (A0 : Option Addr) (c0 : Nat) (l0 : List ByteArray) (r : Bool) (w : World) (hr0 : Kd.C Kd.string w A0 l0.length l0) (hc0 : l0.length ≤ c0) (h : spec_l7Set.f k l0 = some r) :
  Calls Tryd.prog 20 #[.slice A0 l0.length c0] w fun e w' => e = .returned (.bool r) ∧ Drawn0 w w' := by
 have HR0 := aM hr0; have HC0 := aM hc0; clear hr0 hc0; unfold spec_l7Set.f at h; have H := h; clear h; have HC2 := aM H; clear H; go_enter Tryd.func20, Tryd.ntmps20
 go_upto_region 1 with (fail)
 go_cut [11] (fun v11 wc => ∃ (kq : Nat) (x11_1 : Bool), v11 = .bool x11_1 ∧ Aside0 (spec_l7Set.j0 kq l0 x11_1 = some r) ∧ Aside0 (kq ≤ k) ∧ Drawn0 w wc)
 case first =>
  have H := HC2.out; clear HC2; by_cases c3 : (l0.length : Int) > 200
  ·
   rw [if_pos c3] at H; have c3b0 : decide (200 < (l0.length : Int)) = true := decide_eq_true c3; have c3b1 : decide (200 < l0.length) = true := decide_eq_true (by omega); clear c3
   (first | rw [c3b0] | (simp only [i64_w, i32_w]; rw [c3b0]) | skip)
   have H' := aM H; clear H; go_wp2
   go_meet
   case rel => exact ⟨_, (true), zq1, H', ⟨zq6⟩, zq2⟩
  rw [if_neg c3] at H; have c3b0 : decide (200 < (l0.length : Int)) = false := decide_eq_false c3; have c3b1 : decide (200 < l0.length) = false := decide_eq_false (by omega); clear c3
  (first | rw [c3b0] | (simp only [i64_w, i32_w]; rw [c3b0]) | skip)
  replace H := Option.bind_eq_some_iff.mp H; obtain ⟨t106, A40, H⟩ := H; replace H : (spec_l7Set.j0 k l0 (!t106)) = some r := H; have A4 := aM A40; clear A40; have H' := aM H; clear H
  go_wp2_with (first | (go_at_call 37; (with_reducible refine (spec_l1Rises.calls k _ _ l0 t106 _ ?side1 ?side2 A4.out).mono ?_); (case side1 => exact zq7); (case side2 => exact zq8); rintro e w' ⟨rfl, ⟨nd, rfl⟩⟩))
  go_meet
  case rel => exact ⟨_, (!t106), zq1, H', ⟨zq6⟩, zq2⟩
 case rest =>
  clear HC2; (try clear c2); (try clear p2); (try clear c3); (try clear c3b0); (try clear c3b1); obtain ⟨kq, x11_1, rfl, HA, HJ1, ⟨mc1, rfl⟩⟩ := hcut
  cases kq with
  | zero => exact absurd HA.out (by simp [spec_l7Set.j0])
  | succ kj1 =>
   have H := HA.out; clear HA; simp only [spec_l7Set.j0] at H; by_cases c5 : x11_1 = true
   ·
    subst c5; rw [if_pos rfl] at H; obtain rfl := Option.some.inj H; go_wp2; go_ret; exact ⟨zq1, zq2⟩
   replace c5 := Bool.eq_false_iff.mpr c5; subst c5; rw [if_neg (show ¬ (false = true) by decide)] at H; have H' := aM H; clear H; go_wp2
   go_loopg [3] kj1 (fun kq v3 w' => ∃ (x3_2 : Int), v3 = .int .i64 x3_2 ∧ Aside0 (spec_l7Set.l0 kq l0 x3_2 = some r) ∧ Aside0 (kq ≤ kj1) ∧ Drawn0 w w')
   case atStart => exact ⟨(0), zq1, H', ⟨Nat.le_refl _⟩, zq2⟩
   case round =>
    clear H'; (try clear c1); (try clear c2); (try clear p2); (try clear c3); (try clear c3b0); (try clear c3b1); (try clear c5); (try clear p2); obtain ⟨x3_2, rfl, HA, HK2, ⟨m2, rfl⟩⟩ := hrel
    cases gk with
    | zero => exact absurd HA.out (by simp [spec_l7Set.l0])
    | succ k2 =>
     have H := HA.out; clear HA; simp only [spec_l7Set.l0] at H; by_cases c6 : x3_2 < (l0.length : Int)
     ·
      rw [if_pos c6] at H; have c6b0 := decide_eq_true c6; clear c6; by_cases c7 : 0 ≤ x3_2
      ·
       rw [if_pos c7] at H; have c7b0 := decide_eq_true c7; clear c7; replace H := Option.bind_eq_some_iff.mp H; obtain ⟨t108, A80, H⟩ := H; (try dsimp only at H); have A8 := aM A80; clear A80; by_cases c9 : t108 = true
       ·
        subst c9; rw [if_pos rfl] at H; have H' := aM H; clear H; have p107 : 0 ≤ (x3_2 : Int) := of_decide_eq_true zq3; have q107 : x3_2 < (l0.length : Int) := of_decide_eq_true zq3; obtain ⟨ad107, e107, hx107_0⟩ := Kd.at_string HR0.out x3_2 p107 q107; cases e107; replace p107 := eq_true p107; replace q107 := eq_true q107
        go_wp2_with (first | ((with_reducible refine gC 38 rfl ?_); refine gL 22 Tryd.func38 #[.string (rdOf ByteArray.empty l0 x3_2)] ?_; (with_reducible refine (spec_DigestOk.calls k2 (rdOf ByteArray.empty l0 x3_2) true _ A8.out).mono ?_); rintro e w' ⟨rfl, ⟨nd, rfl⟩⟩; refine ⟨_, rfl, ?_⟩))
        go_roundg k2
        case measure => have := HJ1.out; have := HK2.out; omega
        case rel => exact ⟨(wrap64 (x3_2 + 1)), zq1, H', ⟨by have := HJ1.out; have := HK2.out; omega⟩, zq2⟩
       replace c9 := Bool.eq_false_iff.mpr c9; subst c9; rw [if_neg (show ¬ (false = true) by decide)] at H; obtain rfl := Option.some.inj H; have p107 : 0 ≤ (x3_2 : Int) := of_decide_eq_true zq3; have q107 : x3_2 < (l0.length : Int) := of_decide_eq_true zq3; obtain ⟨ad107, e107, hx107_0⟩ := Kd.at_string HR0.out x3_2 p107 q107; cases e107; replace p107 := eq_true p107; replace q107 := eq_true q107
       go_wp2_with (first | ((with_reducible refine gC 38 rfl ?_); refine gL 22 Tryd.func38 #[.string (rdOf ByteArray.empty l0 x3_2)] ?_; (with_reducible refine (spec_DigestOk.calls k2 (rdOf ByteArray.empty l0 x3_2) false _ A8.out).mono ?_); rintro e w' ⟨rfl, ⟨nd, rfl⟩⟩; refine ⟨_, rfl, ?_⟩))
       go_ret; exact ⟨zq1, zq2⟩
      exact zq60
     rw [if_neg c6] at H; have c6b0 := decide_eq_false c6; clear c6; obtain rfl := Option.some.inj H; go_wp2; go_ret; exact ⟨zq1, zq2⟩

end Go.Proofs.YtoeomljkhabifaaDoor.QFnExactNodeOf
