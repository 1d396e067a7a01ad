/- Written by wip/myprint.py of this repo (the kit's print, with additions of this session). -/
import Derived.Test.YtldpdaifajjaeaaDoorQFnRefsx0
import Derived.Test.YtldpdaifajjaeaaDoorQFnRefsx2
set_option maxRecDepth 100000
namespace Go.Proofs.YtldpdaifajjaeaaDoor.QFnRefs
open Go.RowKit Go.Proofs.YtldpdaifajjaeaaDoorW.PrintWords Go.Proofs.YtldpdaifajjaeaaDoorW.PrintLast Go.Proofs.YtldpdaifajjaeaaDoorW.PrintMore
attribute [local go_sem] max2_int min2_int max_two min_two max_three min_three max_four min_four   -- for this text's walks alone
set_option linter.unusedVariables false
set_option linter.unusedSimpArgs false

/-! ### impl_isTag: function 30 -/
mutual
def impl_isTag.j0 : Nat → ByteArray → Bool → Option (Bool)
 | 0, _, _ => none
 | k + 1, x0, x22 => if x22 = true then (some false) else (impl_isTag.l0 k x0 (x0.size : Int) 0)
def impl_isTag.l0 : Nat → ByteArray → Int → Int → Option (Bool)
 | 0, _, _, _ => none
 | k + 1, x0, x24, x25 => if x25 < x24 then (if 0 ≤ x25 then (if x25 < (x0.size : Int) then ((impl_isWordByte.f (bt x0 x25)).bind fun t140 => (if t140 = true then (impl_isTag.l0 k x0 x24 (wrap64 (x25 + 1))) else (if (bt x0 x25) < 65 then (if (bt x0 x25) = 95 then (impl_isTag.l0 k x0 x24 (wrap64 (x25 + 1))) else (if (bt x0 x25) = 46 then (impl_isTag.l0 k x0 x24 (wrap64 (x25 + 1))) else (if (bt x0 x25) = 45 then (impl_isTag.l0 k x0 x24 (wrap64 (x25 + 1))) else (some false)))) else (if (bt x0 x25) > 90 then (if (bt x0 x25) = 95 then (impl_isTag.l0 k x0 x24 (wrap64 (x25 + 1))) else (if (bt x0 x25) = 46 then (impl_isTag.l0 k x0 x24 (wrap64 (x25 + 1))) else (if (bt x0 x25) = 45 then (impl_isTag.l0 k x0 x24 (wrap64 (x25 + 1))) else (some false)))) else (impl_isTag.l0 k x0 x24 (wrap64 (x25 + 1))))))) else (none)) else (none)) else (some true)
end
def impl_isTag.f (k : Nat) (a0 : ByteArray) : Option (Bool) := if (a0.size : Int) < 1 then (impl_isTag.j0 k a0 true) else (if (a0.size : Int) > 128 then (impl_isTag.j0 k a0 true) else (if 0 < (a0.size : Int) then (if (bt a0 0) = 46 then (impl_isTag.j0 k a0 true) else (impl_isTag.j0 k a0 ((bt a0 0) == 45))) else (none)))
theorem impl_isTag.mono_l : ∀ k, (∀ y0 y1, LeO (impl_isTag.j0 k y0 y1) (impl_isTag.j0 (k + 1) y0 y1)) ∧ (∀ y0 y1 y2, LeO (impl_isTag.l0 k y0 y1 y2) (impl_isTag.l0 (k + 1) y0 y1 y2))
 | 0 => ⟨fun _ _ r h => by simp [impl_isTag.j0] at h, fun _ _ _ r h => by simp [impl_isTag.l0] at h⟩
 | k + 1 => by
  obtain ⟨ih0, ih1⟩ := impl_isTag.mono_l k; refine ⟨?_, ?_⟩
  ·
   intro y0 y1; unfold impl_isTag.j0
   repeat' first
   | (with_reducible apply ih0)
   | (with_reducible apply ih1)
   | (with_reducible exact LeO.refl _)
   | (with_reducible exact LeO.none _)
   | (with_reducible refine LeO.ite ?_ ?_)
   | (with_reducible refine LeO.bind ?_ (fun _ => ?_))
   | exact LeO.none _
   | refine LeO.ite ?_ ?_
   | refine LeO.bind ?_ (fun _ => ?_)
  intro y0 y1 y2; unfold impl_isTag.l0
  repeat' first
  | (with_reducible apply ih0)
  | (with_reducible apply ih1)
  | (with_reducible exact LeO.refl _)
  | (with_reducible exact LeO.none _)
  | (with_reducible refine LeO.ite ?_ ?_)
  | (with_reducible refine LeO.bind ?_ (fun _ => ?_))
  | exact LeO.none _
  | refine LeO.ite ?_ ?_
  | refine LeO.bind ?_ (fun _ => ?_)
theorem impl_isTag.mono : ∀ a0 k, LeO (impl_isTag.f k a0) (impl_isTag.f (k + 1) a0) := by
 intro a0 k; obtain ⟨ih0, ih1⟩ := impl_isTag.mono_l k; unfold impl_isTag.f
 repeat' first
   | (with_reducible apply ih0)
   | (with_reducible apply ih1)
   | (with_reducible exact LeO.refl _)
   | (with_reducible exact LeO.none _)
   | (with_reducible refine LeO.ite ?_ ?_)
   | (with_reducible refine LeO.bind ?_ (fun _ => ?_))
   | exact LeO.none _
   | refine LeO.ite ?_ ?_
   | refine LeO.bind ?_ (fun _ => ?_)
set_option maxHeartbeats 8000000 in
set_option maxRecDepth 100000 in
theorem impl_isTag.calls (k : Nat) (a0 : ByteArray) (r : Bool) (w : World) (h : impl_isTag.f k a0 = some r) :
  Calls Tryd.prog 30 #[.string a0] w fun e w' => e = .returned (.bool r) ∧ Drawn0 w w' := by
 unfold impl_isTag.f at h; have H := h; clear h; have HC2 := aM H; clear H; go_enter Tryd.func30, Tryd.ntmps30
 go_upto_region 1 with (fail)
 go_cut [22] (fun v22 wc => ∃ (kq : Nat) (x22_1 : Bool), v22 = .bool x22_1 ∧ Aside0 (impl_isTag.j0 kq a0 x22_1 = some r) ∧ Aside0 (kq ≤ k) ∧ Drawn0 w wc)
 case first =>
  have H := HC2.out; clear HC2; by_cases c3 : (a0.size : Int) < 1
  ·
   rw [if_pos c3] at H; have c3b0 := decide_eq_true c3; have c3b1 : decide (a0.size < 1) = true := decide_eq_true (by omega); clear c3
   (first | rw [c3b0] | (simp only [i64_w, i32_w]; rw [c3b0]) | skip)
   have H' := aM H; clear H; go_wp2
   go_meet
   case rel => exact ⟨_, (true), zq6, H', ⟨zq7⟩, zq20⟩
  rw [if_neg c3] at H; have c3b0 := decide_eq_false c3; have c3b1 : decide (a0.size < 1) = false := decide_eq_false (by omega); clear c3
  (first | rw [c3b0] | (simp only [i64_w, i32_w]; rw [c3b0]) | skip)
  by_cases c4 : (a0.size : Int) > 128
  ·
   rw [if_pos c4] at H; have c4b0 : decide (128 < (a0.size : Int)) = true := decide_eq_true c4; have c4b1 : decide (128 < a0.size) = true := decide_eq_true (by omega); clear c4; have H' := aM H; clear H; go_wp2
   go_meet
   case rel => exact ⟨_, (true), zq6, H', ⟨zq7⟩, zq20⟩
  rw [if_neg c4] at H; have c4b0 : decide (128 < (a0.size : Int)) = false := decide_eq_false c4; have c4b1 : decide (128 < a0.size) = false := decide_eq_false (by omega); clear c4; by_cases c5 : 0 < (a0.size : Int)
  ·
   rw [if_pos c5] at H; have c5b0 := decide_eq_true c5; have c5b1 : decide (0 < a0.size) = true := decide_eq_true (by omega); clear c5; by_cases c7 : (bt a0 0) = 46
   ·
    rw [if_pos c7] at H; have c7b0 : ((bt a0 0) == 46) = true := beq_iff_eq.mpr c7; have c7b1 : ((bt a0 0) != 46) = false := bne_eq_false_iff_eq.mpr c7; clear c7; have H' := aM H; clear H; have p6 : 0 ≤ (0 : Int) := (by omega); have q6 : 0 < a0.size := zq115; have hx6 : ∀ h : 0 < a0.size, ((a0[0]'h).toNat : Int) = bt a0 0 := bt_at a0 0; clear p6; have qi6 : (0 < (a0.size : Int)) = True := eq_true (of_decide_eq_true zq11); replace q6 := eq_true q6; go_wp2
    go_meet
    case rel => exact ⟨_, (true), zq6, H', ⟨zq7⟩, zq20⟩
   rw [if_neg c7] at H; have c7b0 : ((bt a0 0) == 46) = false := beq_eq_false_iff_ne.mpr c7; have c7b1 : ((bt a0 0) != 46) = true := bne_iff_ne.mpr c7; have H' := aM H; clear H; have p6 : 0 ≤ (0 : Int) := (by omega); have q6 : 0 < a0.size := zq115; have hx6 : ∀ h : 0 < a0.size, ((a0[0]'h).toNat : Int) = bt a0 0 := bt_at a0 0; clear p6; have qi6 : (0 < (a0.size : Int)) = True := eq_true (of_decide_eq_true zq11); replace q6 := eq_true q6; have p8 : 0 ≤ (0 : Int) := (by omega); have q8 : 0 < a0.size := zq115; have hx8 : ∀ h : 0 < a0.size, ((a0[0]'h).toNat : Int) = bt a0 0 := bt_at a0 0; clear p8; have qi8 : (0 < (a0.size : Int)) = True := eq_true (of_decide_eq_true zq11); replace q8 := eq_true q8; go_wp2
   go_meet
   case rel => exact ⟨_, (((bt a0 0) == 45)), zq6, H', ⟨zq7⟩, zq20⟩
  exact zq128
 case rest =>
  clear HC2; (try clear p2); (try clear c3); (try clear c3b0); (try clear c3b1); (try clear c4); (try clear c4b0); (try clear c4b1); (try clear c5); (try clear c5b0); (try clear c5b1); (try clear p6); (try clear q6); (try clear hx6); (try clear qi6); (try clear c7); (try clear c7b0); (try clear c7b1); (try clear p8); (try clear q8); (try clear hx8); (try clear qi8); (try clear p6); (try clear p8); (try clear q6); (try clear q8); obtain ⟨kq, x22_1, rfl, HA, HJ1, ⟨mc1, rfl⟩⟩ := hcut
  cases kq with
  | zero => exact absurd HA.out (by simp [impl_isTag.j0])
  | succ kj1 =>
   have H := HA.out; clear HA; simp only [impl_isTag.j0] at H; by_cases c9 : x22_1 = true
   ·
    subst c9; rw [if_pos rfl] at H; obtain rfl := Option.some.inj H; go_wp2; go_ret; exact ⟨zq6, zq20⟩
   replace c9 := Bool.eq_false_iff.mpr c9; subst c9; rw [if_neg (show ¬ (false = true) by decide)] at H; have H' := aM H; clear H; go_wp2
   go_loopg [25] kj1 (fun kq v25 w' => ∃ (x25_2 : Int), v25 = .int .i64 x25_2 ∧ Aside0 (impl_isTag.l0 kq a0 (a0.size : Int) x25_2 = some r) ∧ Aside0 (kq ≤ kj1) ∧ Drawn0 w w')
   case atStart => exact ⟨(0), zq6, H', ⟨Nat.le_refl _⟩, zq20⟩
   case round =>
    clear H'; (try clear c1); (try clear p2); (try clear c3); (try clear c3b0); (try clear c3b1); (try clear c4); (try clear c4b0); (try clear c4b1); (try clear c5); (try clear c5b0); (try clear c5b1); (try clear p6); (try clear q6); (try clear hx6); (try clear qi6); (try clear c7); (try clear c7b0); (try clear c7b1); (try clear p8); (try clear q8); (try clear hx8); (try clear qi8); (try clear c9); (try clear p2); (try clear p6); (try clear p8); (try clear q6); (try clear q8); obtain ⟨x25_2, rfl, HA, HK2, ⟨m2, rfl⟩⟩ := hrel
    cases gk with
    | zero => exact absurd HA.out (by simp [impl_isTag.l0])
    | succ k2 =>
     have H := HA.out; clear HA; simp only [impl_isTag.l0] at H; by_cases c10 : x25_2 < (a0.size : Int)
     ·
      rw [if_pos c10] at H; have c10b0 := decide_eq_true c10; clear c10; by_cases c11 : 0 ≤ x25_2
      ·
       rw [if_pos c11] at H; have c11b0 := decide_eq_true c11; clear c11; by_cases c12 : x25_2 < (a0.size : Int)
       ·
        rw [if_pos c12] at H; have c12b0 := decide_eq_true c12; clear c12; replace H := Option.bind_eq_some_iff.mp H; obtain ⟨t140, A140, H⟩ := H; (try dsimp only at H); have A14 := aM A140; clear A140; by_cases c15 : t140 = true
        ·
         subst c15; rw [if_pos rfl] at H; have H' := aM H; clear H; have p13 : 0 ≤ (x25_2 : Int) := of_decide_eq_true zq11; have q13 : x25_2 < (a0.size : Int) := of_decide_eq_true zq11; have hx13 := bt_at a0 x25_2; replace p13 := eq_true p13; replace q13 := eq_true q13
         go_wp2_with (first | ((with_reducible refine gC 51 rfl ?_); refine gL 32 Tryd.func51 #[.int .u8 (bt a0 x25_2)] ?_; (with_reducible refine (impl_isWordByte.calls (bt a0 x25_2) true _ A14.out).mono ?_); rintro e w' ⟨rfl, ⟨nd, rfl⟩⟩; refine ⟨_, rfl, ?_⟩))
         go_roundg k2
         case measure => have := HJ1.out; have := HK2.out; omega
         case rel => exact ⟨(wrap64 (x25_2 + 1)), zq6, H', ⟨zq78⟩, zq20⟩
        replace c15 := Bool.eq_false_iff.mpr c15; subst c15; rw [if_neg (show ¬ (false = true) by decide)] at H; by_cases c16 : (bt a0 x25_2) < 65
        ·
         rw [if_pos c16] at H; have c16b0 := decide_eq_true c16; clear c16; by_cases c17 : (bt a0 x25_2) = 95
         ·
          rw [if_pos c17] at H; have c17b0 : ((bt a0 x25_2) == 95) = true := beq_iff_eq.mpr c17; have c17b1 : ((bt a0 x25_2) != 95) = false := bne_eq_false_iff_eq.mpr c17; clear c17; have H' := aM H; clear H; have p13 : 0 ≤ (x25_2 : Int) := of_decide_eq_true zq11; have q13 : x25_2 < (a0.size : Int) := of_decide_eq_true zq11; have hx13 := bt_at a0 x25_2; replace p13 := eq_true p13; replace q13 := eq_true q13
          go_wp2_with (first | ((with_reducible refine gC 51 rfl ?_); refine gL 32 Tryd.func51 #[.int .u8 (bt a0 x25_2)] ?_; (with_reducible refine (impl_isWordByte.calls (bt a0 x25_2) false _ A14.out).mono ?_); rintro e w' ⟨rfl, ⟨nd, rfl⟩⟩; refine ⟨_, rfl, ?_⟩))
          go_roundg k2
          case measure => have := HJ1.out; have := HK2.out; omega
          case rel => exact ⟨(wrap64 (x25_2 + 1)), zq6, H', ⟨zq78⟩, zq20⟩
         rw [if_neg c17] at H; have c17b0 : ((bt a0 x25_2) == 95) = false := beq_eq_false_iff_ne.mpr c17; have c17b1 : ((bt a0 x25_2) != 95) = true := bne_iff_ne.mpr c17; by_cases c18 : (bt a0 x25_2) = 46
         ·
          rw [if_pos c18] at H; have c18b0 : ((bt a0 x25_2) == 46) = true := beq_iff_eq.mpr c18; have c18b1 : ((bt a0 x25_2) != 46) = false := bne_eq_false_iff_eq.mpr c18; clear c18; have H' := aM H; clear H; have p13 : 0 ≤ (x25_2 : Int) := of_decide_eq_true zq11; have q13 : x25_2 < (a0.size : Int) := of_decide_eq_true zq11; have hx13 := bt_at a0 x25_2; replace p13 := eq_true p13; replace q13 := eq_true q13
          go_wp2_with (first | ((with_reducible refine gC 51 rfl ?_); refine gL 32 Tryd.func51 #[.int .u8 (bt a0 x25_2)] ?_; (with_reducible refine (impl_isWordByte.calls (bt a0 x25_2) false _ A14.out).mono ?_); rintro e w' ⟨rfl, ⟨nd, rfl⟩⟩; refine ⟨_, rfl, ?_⟩))
          go_roundg k2
          case measure => have := HJ1.out; have := HK2.out; omega
          case rel => exact ⟨(wrap64 (x25_2 + 1)), zq6, H', ⟨zq78⟩, zq20⟩
         rw [if_neg c18] at H; have c18b0 : ((bt a0 x25_2) == 46) = false := beq_eq_false_iff_ne.mpr c18; have c18b1 : ((bt a0 x25_2) != 46) = true := bne_iff_ne.mpr c18; by_cases c19 : (bt a0 x25_2) = 45
         ·
          rw [if_pos c19] at H; have c19b0 : ((bt a0 x25_2) == 45) = true := beq_iff_eq.mpr c19; have c19b1 : ((bt a0 x25_2) != 45) = false := bne_eq_false_iff_eq.mpr c19; clear c19; have H' := aM H; clear H; have p13 : 0 ≤ (x25_2 : Int) := of_decide_eq_true zq11; have q13 : x25_2 < (a0.size : Int) := of_decide_eq_true zq11; have hx13 := bt_at a0 x25_2; replace p13 := eq_true p13; replace q13 := eq_true q13
          go_wp2_with (first | ((with_reducible refine gC 51 rfl ?_); refine gL 32 Tryd.func51 #[.int .u8 (bt a0 x25_2)] ?_; (with_reducible refine (impl_isWordByte.calls (bt a0 x25_2) false _ A14.out).mono ?_); rintro e w' ⟨rfl, ⟨nd, rfl⟩⟩; refine ⟨_, rfl, ?_⟩))
          go_roundg k2
          case measure => have := HJ1.out; have := HK2.out; omega
          case rel => exact ⟨(wrap64 (x25_2 + 1)), zq6, H', ⟨zq78⟩, zq20⟩
         rw [if_neg c19] at H; have c19b0 : ((bt a0 x25_2) == 45) = false := beq_eq_false_iff_ne.mpr c19; have c19b1 : ((bt a0 x25_2) != 45) = true := bne_iff_ne.mpr c19; obtain rfl := Option.some.inj H; have p13 : 0 ≤ (x25_2 : Int) := of_decide_eq_true zq11; have q13 : x25_2 < (a0.size : Int) := of_decide_eq_true zq11; have hx13 := bt_at a0 x25_2; replace p13 := eq_true p13; replace q13 := eq_true q13
         go_wp2_with (first | ((with_reducible refine gC 51 rfl ?_); refine gL 32 Tryd.func51 #[.int .u8 (bt a0 x25_2)] ?_; (with_reducible refine (impl_isWordByte.calls (bt a0 x25_2) false _ A14.out).mono ?_); rintro e w' ⟨rfl, ⟨nd, rfl⟩⟩; refine ⟨_, rfl, ?_⟩))
         go_ret; exact ⟨zq6, zq20⟩
        rw [if_neg c16] at H; have c16b0 := decide_eq_false c16; clear c16; by_cases c20 : (bt a0 x25_2) > 90
        ·
         rw [if_pos c20] at H; have c20b0 : decide (90 < (bt a0 x25_2)) = true := decide_eq_true c20; clear c20; by_cases c21 : (bt a0 x25_2) = 95
         ·
          rw [if_pos c21] at H; have c21b0 : ((bt a0 x25_2) == 95) = true := beq_iff_eq.mpr c21; have c21b1 : ((bt a0 x25_2) != 95) = false := bne_eq_false_iff_eq.mpr c21; clear c21; have H' := aM H; clear H; have p13 : 0 ≤ (x25_2 : Int) := of_decide_eq_true zq11; have q13 : x25_2 < (a0.size : Int) := of_decide_eq_true zq11; have hx13 := bt_at a0 x25_2; replace p13 := eq_true p13; replace q13 := eq_true q13
          go_wp2_with (first | ((with_reducible refine gC 51 rfl ?_); refine gL 32 Tryd.func51 #[.int .u8 (bt a0 x25_2)] ?_; (with_reducible refine (impl_isWordByte.calls (bt a0 x25_2) false _ A14.out).mono ?_); rintro e w' ⟨rfl, ⟨nd, rfl⟩⟩; refine ⟨_, rfl, ?_⟩))
          go_roundg k2
          case measure => have := HJ1.out; have := HK2.out; omega
          case rel => exact ⟨(wrap64 (x25_2 + 1)), zq6, H', ⟨zq78⟩, zq20⟩
         rw [if_neg c21] at H; have c21b0 : ((bt a0 x25_2) == 95) = false := beq_eq_false_iff_ne.mpr c21; have c21b1 : ((bt a0 x25_2) != 95) = true := bne_iff_ne.mpr c21; by_cases c22 : (bt a0 x25_2) = 46
         ·
          rw [if_pos c22] at H; have c22b0 : ((bt a0 x25_2) == 46) = true := beq_iff_eq.mpr c22; have c22b1 : ((bt a0 x25_2) != 46) = false := bne_eq_false_iff_eq.mpr c22; clear c22; have H' := aM H; clear H; have p13 : 0 ≤ (x25_2 : Int) := of_decide_eq_true zq11; have q13 : x25_2 < (a0.size : Int) := of_decide_eq_true zq11; have hx13 := bt_at a0 x25_2; replace p13 := eq_true p13; replace q13 := eq_true q13
          go_wp2_with (first | ((with_reducible refine gC 51 rfl ?_); refine gL 32 Tryd.func51 #[.int .u8 (bt a0 x25_2)] ?_; (with_reducible refine (impl_isWordByte.calls (bt a0 x25_2) false _ A14.out).mono ?_); rintro e w' ⟨rfl, ⟨nd, rfl⟩⟩; refine ⟨_, rfl, ?_⟩))
          go_roundg k2
          case measure => have := HJ1.out; have := HK2.out; omega
          case rel => exact ⟨(wrap64 (x25_2 + 1)), zq6, H', ⟨zq78⟩, zq20⟩
         rw [if_neg c22] at H; have c22b0 : ((bt a0 x25_2) == 46) = false := beq_eq_false_iff_ne.mpr c22; have c22b1 : ((bt a0 x25_2) != 46) = true := bne_iff_ne.mpr c22; by_cases c23 : (bt a0 x25_2) = 45
         ·
          rw [if_pos c23] at H; have c23b0 : ((bt a0 x25_2) == 45) = true := beq_iff_eq.mpr c23; have c23b1 : ((bt a0 x25_2) != 45) = false := bne_eq_false_iff_eq.mpr c23; clear c23; have H' := aM H; clear H; have p13 : 0 ≤ (x25_2 : Int) := of_decide_eq_true zq11; have q13 : x25_2 < (a0.size : Int) := of_decide_eq_true zq11; have hx13 := bt_at a0 x25_2; replace p13 := eq_true p13; replace q13 := eq_true q13
          go_wp2_with (first | ((with_reducible refine gC 51 rfl ?_); refine gL 32 Tryd.func51 #[.int .u8 (bt a0 x25_2)] ?_; (with_reducible refine (impl_isWordByte.calls (bt a0 x25_2) false _ A14.out).mono ?_); rintro e w' ⟨rfl, ⟨nd, rfl⟩⟩; refine ⟨_, rfl, ?_⟩))
          go_roundg k2
          case measure => have := HJ1.out; have := HK2.out; omega
          case rel => exact ⟨(wrap64 (x25_2 + 1)), zq6, H', ⟨zq78⟩, zq20⟩
         rw [if_neg c23] at H; have c23b0 : ((bt a0 x25_2) == 45) = false := beq_eq_false_iff_ne.mpr c23; have c23b1 : ((bt a0 x25_2) != 45) = true := bne_iff_ne.mpr c23; obtain rfl := Option.some.inj H; have p13 : 0 ≤ (x25_2 : Int) := of_decide_eq_true zq11; have q13 : x25_2 < (a0.size : Int) := of_decide_eq_true zq11; have hx13 := bt_at a0 x25_2; replace p13 := eq_true p13; replace q13 := eq_true q13
         go_wp2_with (first | ((with_reducible refine gC 51 rfl ?_); refine gL 32 Tryd.func51 #[.int .u8 (bt a0 x25_2)] ?_; (with_reducible refine (impl_isWordByte.calls (bt a0 x25_2) false _ A14.out).mono ?_); rintro e w' ⟨rfl, ⟨nd, rfl⟩⟩; refine ⟨_, rfl, ?_⟩))
         go_ret; exact ⟨zq6, zq20⟩
        rw [if_neg c20] at H; have c20b0 : decide (90 < (bt a0 x25_2)) = false := decide_eq_false c20; clear c20; have H' := aM H; clear H; have p13 : 0 ≤ (x25_2 : Int) := of_decide_eq_true zq11; have q13 : x25_2 < (a0.size : Int) := of_decide_eq_true zq11; have hx13 := bt_at a0 x25_2; replace p13 := eq_true p13; replace q13 := eq_true q13
        go_wp2_with (first | ((with_reducible refine gC 51 rfl ?_); refine gL 32 Tryd.func51 #[.int .u8 (bt a0 x25_2)] ?_; (with_reducible refine (impl_isWordByte.calls (bt a0 x25_2) false _ A14.out).mono ?_); rintro e w' ⟨rfl, ⟨nd, rfl⟩⟩; refine ⟨_, rfl, ?_⟩))
        go_roundg k2
        case measure => have := HJ1.out; have := HK2.out; omega
        case rel => exact ⟨(wrap64 (x25_2 + 1)), zq6, H', ⟨zq78⟩, zq20⟩
       exact zq141
      exact zq136
     rw [if_neg c10] at H; have c10b0 := decide_eq_false c10; clear c10; obtain rfl := Option.some.inj H; go_wp2; go_ret; exact ⟨zq6, zq20⟩

/-! ### stringslite_HasPrefix: function 89 -/
def stringslite_HasPrefix.f (a0 : ByteArray) (a1 : ByteArray) : Option (Bool) := if (a0.size : Int) ≥ (a1.size : Int) then (if 0 ≤ (a1.size : Int) then (if (a1.size : Int) ≤ (a0.size : Int) then (some ((a0.extract 0 ((a1.size : Int) : Int).toNat).toList == a1.toList)) else (none)) else (none)) else (some false)
set_option maxHeartbeats 8000000 in
set_option maxRecDepth 100000 in
theorem stringslite_HasPrefix.calls (a0 : ByteArray) (a1 : ByteArray) (r : Bool) (w : World) (h : stringslite_HasPrefix.f a0 a1 = some r) :
  Calls Tryd.prog 89 #[.string a0, .string a1] w fun e w' => e = .returned (.bool r) ∧ Drawn0 w w' := by
 unfold stringslite_HasPrefix.f at h; have H := h; clear h; by_cases c3 : (a0.size : Int) ≥ (a1.size : Int)
 ·
  rw [if_pos c3] at H; have c3b0 : decide ((a1.size : Int) ≤ (a0.size : Int)) = true := decide_eq_true c3; have c3b1 : decide (a1.size ≤ a0.size) = true := decide_eq_true (Int.ofNat_le.mp c3); clear c3; by_cases c4 : 0 ≤ (a1.size : Int)
  ·
   rw [if_pos c4] at H; have c4b0 := eq_true c4; have c4b1 := decide_eq_true c4; clear c4; by_cases c5 : (a1.size : Int) ≤ (a0.size : Int)
   ·
    rw [if_pos c5] at H; have c5b0 := eq_true c5; have c5b1 := decide_eq_true c5; clear c5; obtain rfl := Option.some.inj H; go_enter Tryd.func89, Tryd.ntmps89; go_wp2; go_ret; exact ⟨zq6, zq20⟩
   exact zq128
  exact zq129
 rw [if_neg c3] at H; have c3b0 : decide ((a1.size : Int) ≤ (a0.size : Int)) = false := decide_eq_false c3; have c3b1 : decide (a1.size ≤ a0.size) = false := decide_eq_false (fun h => c3 (Int.ofNat_le.mpr h)); clear c3; obtain rfl := Option.some.inj H; go_enter Tryd.func89, Tryd.ntmps89; go_wp2; go_ret; exact ⟨zq6, zq20⟩

/-! ### stringslite_CutPrefix: function 69 -/
def stringslite_CutPrefix.f (a0 : ByteArray) (a1 : ByteArray) : Option (ByteArray × Bool) := (stringslite_HasPrefix.f a0 a1).bind fun t141 => (if t141 = true then (if 0 ≤ (a1.size : Int) then (if (a1.size : Int) ≤ (a0.size : Int) then (some (a0.extract ((a1.size : Int) : Int).toNat a0.size, true)) else (none)) else (none)) else (some (a0, false)))
set_option maxHeartbeats 8000000 in
set_option maxRecDepth 100000 in
theorem stringslite_CutPrefix.calls (a0 : ByteArray) (a1 : ByteArray) (r1 : ByteArray) (r2 : Bool) (w : World) (h : stringslite_CutPrefix.f a0 a1 = some (r1, r2)) :
  Calls Tryd.prog 69 #[.string a0, .string a1] w fun e w' => e = .returned (.tuple #[.string r1, .bool r2]) ∧ Drawn0 w w' := by
 unfold stringslite_CutPrefix.f at h; have H := h; clear h; replace H := Option.bind_eq_some_iff.mp H; obtain ⟨t141, A30, H⟩ := H; (try dsimp only at H); have A3 := aM A30; clear A30; by_cases c4 : t141 = true
 ·
  subst c4; rw [if_pos rfl] at H; by_cases c5 : 0 ≤ (a1.size : Int)
  ·
   rw [if_pos c5] at H; have c5b0 := eq_true c5; have c5b1 := decide_eq_true c5; clear c5; by_cases c6 : (a1.size : Int) ≤ (a0.size : Int)
   ·
    rw [if_pos c6] at H; have c6b0 := eq_true c6; have c6b1 := decide_eq_true c6; clear c6; simp only [Option.some.injEq, Prod.mk.injEq] at H; obtain ⟨rfl, rfl⟩ := H; go_enter Tryd.func69, Tryd.ntmps69
    go_wp2_with (first | ((with_reducible refine gC 89 rfl ?_); refine gL 8 Tryd.func89 #[.string a0, .string a1] ?_; (with_reducible refine (stringslite_HasPrefix.calls a0 a1 true _ A3.out).mono ?_); rintro e w' ⟨rfl, ⟨nd, rfl⟩⟩; refine ⟨_, rfl, ?_⟩))
    go_ret2
    exact ⟨zq6, zq20⟩
   exact zq127
  exact zq128
 replace c4 := Bool.eq_false_iff.mpr c4; subst c4; rw [if_neg (show ¬ (false = true) by decide)] at H; simp only [Option.some.injEq, Prod.mk.injEq] at H; obtain ⟨rfl, rfl⟩ := H; go_enter Tryd.func69, Tryd.ntmps69
 go_wp2_with (first | ((with_reducible refine gC 89 rfl ?_); refine gL 8 Tryd.func89 #[.string a0, .string a1] ?_; (with_reducible refine (stringslite_HasPrefix.calls a0 a1 false _ A3.out).mono ?_); rintro e w' ⟨rfl, ⟨nd, rfl⟩⟩; refine ⟨_, rfl, ?_⟩))
 go_ret2
 exact ⟨zq6, zq20⟩

/-! ### strings_CutPrefix: function 52 -/
def strings_CutPrefix.f (a0 : ByteArray) (a1 : ByteArray) : Option (ByteArray × Bool) := (stringslite_CutPrefix.f a0 a1).bind fun bt142 => (some (bt142.1, bt142.2))
set_option maxHeartbeats 8000000 in
set_option maxRecDepth 100000 in
theorem strings_CutPrefix.calls (a0 : ByteArray) (a1 : ByteArray) (r1 : ByteArray) (r2 : Bool) (w : World) (h : strings_CutPrefix.f a0 a1 = some (r1, r2)) :
  Calls Tryd.prog 52 #[.string a0, .string a1] w fun e w' => e = .returned (.tuple #[.string r1, .bool r2]) ∧ Drawn0 w w' := by
 unfold strings_CutPrefix.f at h; have H := h; clear h; replace H := Option.bind_eq_some_iff.mp H; obtain ⟨⟨t142, t143⟩, A30, H⟩ := H; replace H : (some (t142, t143)) = some (r1, r2) := H; have A3 := aM A30; clear A30; simp only [Option.some.injEq, Prod.mk.injEq] at H; obtain ⟨rfl, rfl⟩ := H; go_enter Tryd.func52, Tryd.ntmps52
 go_wp2_with (first | ((with_reducible refine gC 69 rfl ?_); refine gL 8 Tryd.func69 #[.string a0, .string a1] ?_; (with_reducible refine (stringslite_CutPrefix.calls a0 a1 t142 t143 _ A3.out).mono ?_); rintro e w' ⟨rfl, ⟨nd, rfl⟩⟩; refine ⟨_, rfl, ?_⟩))
 go_ret2
 exact ⟨zq6, zq20⟩

/-! ### strings_Trim: function 53 (given) -/
def strings_Trim.f (a0 : ByteArray) (a1 : ByteArray) : Option ByteArray := if a0.size ≤ 9223372036854775807 ∧ a1.size < 4294967281 ∧ a1.data.toList.all (fun b => decide (b.toNat < 128)) = true then some ⟨(Lib.trimS a0.data.toList a1.data.toList).toArray⟩ else none
theorem strings_Trim.calls (a0 : ByteArray) (a1 : ByteArray) (r : ByteArray) (w : World) (h : strings_Trim.f a0 a1 = some r) :
    Calls Tryd.prog 53 #[.string a0, .string a1] w fun e w' => e = .returned (.string r) ∧ Below w.heap.size w w' := by
  unfold strings_Trim.f at h
  split at h
  · rename_i hg
    injection h with h
    subst h; exact Any.strings_Trim_laid Tryd.lays160 (by kernel_rfl) a0 a1 w hg.1 hg.2.1 (ascii_of_all hg.2.2)
  · exact absurd h (by simp)

/-! ### impl_isDigest: function 31 -/
def impl_isDigest.f (a0 : ByteArray) : Option (Bool) := (strings_CutPrefix.f a0 (⟨#[115, 104, 97, 50, 53, 54, 58]⟩ : ByteArray)).bind fun bt144 => (if bt144.2 = true then (if (bt144.1.size : Int) = 64 then ((strings_Trim.f bt144.1 (⟨#[48, 49, 50, 51, 52, 53, 54, 55, 56, 57, 97, 98, 99, 100, 101, 102]⟩ : ByteArray)).bind fun t146 => (some (t146.toList == ([] : List UInt8)))) else (some false)) else (some false))
set_option maxHeartbeats 8000000 in
set_option maxRecDepth 100000 in
theorem impl_isDigest.calls (a0 : ByteArray) (r : Bool) (w : World) (h : impl_isDigest.f a0 = some r) :
  Calls Tryd.prog 31 #[.string a0] w fun e w' => e = .returned (.bool r) ∧ Below w.heap.size w w' := by
 have HB := aM (Below.refl w.heap.size w); unfold impl_isDigest.f at h; have H := h; clear h; replace H := Option.bind_eq_some_iff.mp H; obtain ⟨⟨t144, t145⟩, A20, H⟩ := H; (try dsimp only at H); have A2 := aM A20; clear A20; by_cases c3 : t145 = true
 ·
  subst c3; rw [if_pos rfl] at H; by_cases c4 : (t144.size : Int) = 64
  ·
   rw [if_pos c4] at H; have c4b0 : ((t144.size : Int) == 64) = true := beq_iff_eq.mpr c4; have c4b1 : ((t144.size : Int) != 64) = false := bne_eq_false_iff_eq.mpr c4; clear c4; replace H := Option.bind_eq_some_iff.mp H; obtain ⟨t146, A50, H⟩ := H; (try dsimp only at H); have A5 := aM A50; clear A50; obtain rfl := Option.some.inj H; go_enter Tryd.func31, Tryd.ntmps31
   go_wp2_with (first | ((with_reducible refine gC 52 rfl ?_); refine gL 7 Tryd.func52 #[.string a0, .string (⟨#[115, 104, 97, 50, 53, 54, 58]⟩ : ByteArray)] ?_; (with_reducible refine (strings_CutPrefix.calls a0 (⟨#[115, 104, 97, 50, 53, 54, 58]⟩ : ByteArray) t144 true _ A2.out).mono ?_); rintro e w' ⟨rfl, ⟨nd, rfl⟩⟩; refine ⟨_, rfl, ?_⟩) | (go_at_call 53; (with_reducible refine (strings_Trim.calls t144 (⟨#[48, 49, 50, 51, 52, 53, 54, 55, 56, 57, 97, 98, 99, 100, 101, 102]⟩ : ByteArray) t146 _ A5.out).mono ?_); rintro e w6 ⟨rfl, hb⟩; replace HB := sB zq2 hb; clear hb))
   go_ret; exact ⟨zq19, zq2⟩
  rw [if_neg c4] at H; have c4b0 : ((t144.size : Int) == 64) = false := beq_eq_false_iff_ne.mpr c4; have c4b1 : ((t144.size : Int) != 64) = true := bne_iff_ne.mpr c4; obtain rfl := Option.some.inj H; go_enter Tryd.func31, Tryd.ntmps31
  go_wp2_with (first | ((with_reducible refine gC 52 rfl ?_); refine gL 7 Tryd.func52 #[.string a0, .string (⟨#[115, 104, 97, 50, 53, 54, 58]⟩ : ByteArray)] ?_; (with_reducible refine (strings_CutPrefix.calls a0 (⟨#[115, 104, 97, 50, 53, 54, 58]⟩ : ByteArray) t144 true _ A2.out).mono ?_); rintro e w' ⟨rfl, ⟨nd, rfl⟩⟩; refine ⟨_, rfl, ?_⟩))
  go_ret; exact ⟨zq19, zq2⟩
 replace c3 := Bool.eq_false_iff.mpr c3; subst c3; rw [if_neg (show ¬ (false = true) by decide)] at H; obtain rfl := Option.some.inj H; go_enter Tryd.func31, Tryd.ntmps31
 go_wp2_with (first | ((with_reducible refine gC 52 rfl ?_); refine gL 7 Tryd.func52 #[.string a0, .string (⟨#[115, 104, 97, 50, 53, 54, 58]⟩ : ByteArray)] ?_; (with_reducible refine (strings_CutPrefix.calls a0 (⟨#[115, 104, 97, 50, 53, 54, 58]⟩ : ByteArray) t144 false _ A2.out).mono ?_); rintro e w' ⟨rfl, ⟨nd, rfl⟩⟩; refine ⟨_, rfl, ?_⟩))
 go_ret; exact ⟨zq19, zq2⟩

end Go.Proofs.YtldpdaifajjaeaaDoor.QFnRefs
